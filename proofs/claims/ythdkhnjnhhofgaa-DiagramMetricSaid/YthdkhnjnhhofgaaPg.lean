/- The law on few bars. -/
import Derived.Test.YthdkhnjnhhofgaaPf
set_option linter.unusedSimpArgs false
set_option linter.unusedVariables false
set_option maxRecDepth 100000
namespace Go.Proofs.Ythdkhnjnhhofgaa
open Go.Eng Go.RowKit Go.Kuhn

/-- The first bar has no partner, or one of those. -/
def MMr (c : Int) : List Br → List Br → Prop
  | [], b => ∀ y ∈ b, y.len ≤ c
  | x :: a, b => (x.len ≤ c ∧ MMr c a b) ∨ ∃ (k : Nat) (hk : k < b.length), x.apart b[k] ≤ c ∧ MMr c a (b.take k ++ b.drop (k + 1))
theorem foldl_max_le (c : Int) : ∀ (b : List Br) (m : Int), b.foldl (fun m y => max m y.len) m ≤ c ↔ m ≤ c ∧ ∀ y ∈ b, y.len ≤ c
  | [], m => by simp
  | y :: b, m => by
    rw [List.foldl_cons, foldl_max_le c b]
    constructor
    · rintro ⟨h1, h2⟩
      have h1 : max m y.len ≤ c := h1
      exact ⟨by omega, fun z hz => by
        rcases List.mem_cons.1 hz with rfl | hz
        · omega
        · exact h2 z hz⟩
    · rintro ⟨h1, h2⟩
      have := h2 y (by simp)
      exact ⟨by show max m y.len ≤ c; omega, fun z hz => h2 z (by simp [hz])⟩
theorem foldl_min_le {β : Type} (f : β → Int) (c : Int) : ∀ (b : List β) (m : Int), b.foldl (fun m y => min m (f y)) m ≤ c ↔ m ≤ c ∨ ∃ y ∈ b, f y ≤ c
  | [], m => by simp
  | y :: b, m => by
    rw [List.foldl_cons, foldl_min_le f c b]
    constructor
    · rintro (h1 | ⟨z, hz, h1⟩)
      · have h1 : min m (f y) ≤ c := h1
        rcases Int.le_total m (f y) with h | h
        · exact .inl (by omega)
        · exact .inr ⟨y, by simp, by omega⟩
      · exact .inr ⟨z, by simp [hz], h1⟩
    · rintro (h1 | ⟨z, hz, h1⟩)
      · exact .inl (by show min m (f y) ≤ c; omega)
      · rcases List.mem_cons.1 hz with rfl | hz
        · exact .inl (by show min m (f z) ≤ c; omega)
        · exact .inr ⟨z, hz, h1⟩
theorem leastF_le {c : Int} (hc : 0 ≤ c) : ∀ a b : List Br, leastF a b ≤ c ↔ MMr c a b
  | [], b => by unfold leastF MMr; rw [foldl_max_le]; simp [hc]
  | x :: a, b => by
    unfold leastF MMr
    rw [foldl_min_le]
    have ih := leastF_le hc a
    constructor
    · rintro (h | ⟨k, hk, h⟩)
      · exact .inl ⟨by omega, (ih b).1 (by omega)⟩
      · have hk : k < b.length := by simpa using hk
        rw [List.getElem?_eq_getElem hk] at h
        simp only [Option.getD_some] at h
        exact .inr ⟨k, hk, by omega, (ih _).1 (by omega)⟩
    · rintro (⟨h1, h2⟩ | ⟨k, hk, h1, h2⟩)
      · exact .inl (by have := (ih b).2 h2; omega)
      · refine .inr ⟨k, by simpa using hk, ?_⟩
        rw [List.getElem?_eq_getElem hk]
        simp only [Option.getD_some]
        have := (ih _).2 h2; omega

theorem inj_skipL {x : Br} {a b : List Br} {c : Int} (hx : x.len ≤ c) (h : Inj a b c) : Inj (x :: a) b c := by
  obtain ⟨pos, h1, h2⟩ := h
  refine ⟨fun i => pos (i - 1), fun i hi hl => ?_, fun i j hi hj hl hl' e => ?_⟩
  · cases i with
    | zero => simp at hl; omega
    | succ i => exact h1 i (by simpa using hi) (by simpa using hl)
  · cases i with
    | zero => simp at hl; omega
    | succ i => cases j with
      | zero => simp at hl'; omega
      | succ j => have := h2 i j (by simpa using hi) (by simpa using hj) (by simpa using hl) (by simpa using hl') (by simpa using e); omega
theorem inj_skipR {x : Br} {a b : List Br} {c : Int} (h : Inj b a c) : Inj b (x :: a) c := by
  obtain ⟨pos, h1, h2⟩ := h
  refine ⟨fun i => pos i + 1, fun i hi hl => ?_, fun i j hi hj hl hl' e => h2 i j hi hj hl hl' (by simpa using e)⟩
  obtain ⟨g1, g2⟩ := h1 i hi hl
  exact ⟨by simpa using g1, by simpa using g2⟩
theorem inj_pair {x y : Br} {a b : List Br} {c : Int} (hxy : x.apart y ≤ c) (h : Inj a b c) : Inj (x :: a) (y :: b) c := by
  obtain ⟨pos, h1, h2⟩ := h
  refine ⟨fun i => match i with | 0 => 0 | i + 1 => pos i + 1, fun i hi hl => ?_, fun i j hi hj hl hl' e => ?_⟩
  · cases i with
    | zero => exact ⟨by simp, by simpa using hxy⟩
    | succ i =>
      obtain ⟨g1, g2⟩ := h1 i (by simpa using hi) (by simpa using hl)
      exact ⟨by simpa using g1, by simpa using g2⟩
  · cases i with
    | zero => cases j with
      | zero => rfl
      | succ j => simp at e
    | succ i => cases j with
      | zero => simp at e
      | succ j => have := h2 i j (by simpa using hi) (by simpa using hj) (by simpa using hl) (by simpa using hl') (by simpa using e); omega
theorem take_drop_perm {α : Type} (b : List α) (k : Nat) (hk : k < b.length) : b.Perm (b[k] :: (b.take k ++ b.drop (k + 1))) := by
  have h1 : b = b.take k ++ b[k] :: b.drop (k + 1) := by rw [← List.drop_eq_getElem_cons hk, List.take_append_drop]
  have h2 : (b.take k ++ b[k] :: b.drop (k + 1)).Perm (b[k] :: (b.take k ++ b.drop (k + 1))) := List.perm_middle
  rw [← h1] at h2
  exact h2
theorem simL_perm {l l' : List Br} (h : l.Perm l') : SimL l l' := by
  have := SimL.of_map (f := id) (g := id) h fun x _ => ⟨rfl, rfl⟩
  simpa using this
theorem mmr_inj {c : Int} : ∀ a b : List Br, MMr c a b → Inj a b c ∧ Inj b a c
  | [], b, h => ⟨⟨id, fun x hx => by simp at hx, fun x y hx => by simp at hx⟩, ⟨id, fun x hx hl => by have := h _ (List.getElem_mem hx); omega, fun x y hx hy hl => by have := h _ (List.getElem_mem hx); omega⟩⟩
  | x :: a, b, h => by
    rcases h with ⟨h1, h2⟩ | ⟨k, hk, h1, h2⟩
    · obtain ⟨g1, g2⟩ := mmr_inj a b h2
      exact ⟨inj_skipL h1 g1, inj_skipR g2⟩
    · obtain ⟨g1, g2⟩ := mmr_inj a _ h2
      have hp := take_drop_perm b k hk
      exact ⟨(inj_pair h1 g1).simR (simL_perm hp.symm), (inj_pair (by rw [apart_comm]; exact h1) g2).simL (simL_perm hp)⟩

/-- A matching that leaves only short bars alone. -/
def PM (c : Int) (a b : List Br) : Prop := ∃ g : Nat → Option Nat, (∀ x (hx : x < a.length), (∃ (k : Nat) (hk : k < b.length), g x = some k ∧ a[x].apart b[k] ≤ c) ∨ (g x = none ∧ a[x].len ≤ c)) ∧
  (∀ x y k, x < a.length → y < a.length → g x = some k → g y = some k → x = y) ∧ ∀ k (hk : k < b.length), (∃ x, x < a.length ∧ g x = some k) ∨ b[k].len ≤ c
theorem pos_pm {a b : List Br} {c : Int} (h : Pos (fitsD a b c) (a.length + b.length)) : PM c a b := by
  obtain ⟨part, hl, hK, hc⟩ := h
  have hex : ∀ x, x < a.length + b.length → ∃ k, part[k]? = some (x : Int) ∧ k < part.length ∧ fitsD a b c x k = true := fun x hx => place_of hK (by rw [hc x hx]; decide)
  classical
  let pos : Nat → Nat := fun x => if h : x < a.length + b.length then (hex x h).choose else 0
  have hp : ∀ x, x < a.length + b.length → part[pos x]? = some (x : Int) ∧ pos x < part.length ∧ fitsD a b c x (pos x) = true := fun x hx => by
    have : pos x = (hex x hx).choose := by simp only [pos, hx, dif_pos]
    rw [this]; exact (hex x hx).choose_spec
  refine ⟨fun x => if pos x < b.length then some (pos x) else none, fun x hx => ?_, fun x y k hx hy e1 e2 => ?_, fun k hk => ?_⟩
  · obtain ⟨g1, g2, g3⟩ := hp x (by omega)
    obtain ⟨f1, f2, f3⟩ := fitsD_real g3
    by_cases hb : pos x < b.length
    · have := f1 hx hb
      obtain ⟨_, _, i3⟩ := fitsR_lt this
      exact .inl ⟨pos x, hb, by simp [hb], i3⟩
    · exact .inr ⟨by simp [hb], f2 hx hb⟩
  · have a1 : pos x = k := by
      by_cases hb : pos x < b.length
      · simpa [hb] using e1
      · simp [hb] at e1
    have a2 : pos y = k := by
      by_cases hb : pos y < b.length
      · simpa [hb] using e2
      · simp [hb] at e2
    have h1 := (hp x (by omega)).1
    have h2 := (hp y (by omega)).1
    rw [a1] at h1; rw [a2, h1] at h2
    have := Option.some.inj h2; omega
  · obtain ⟨p, h1, h2, h3⟩ := full hl hK hc k (by omega)
    obtain ⟨f1, f2, f3⟩ := fitsD_real h3
    by_cases hpa : p < a.length
    · have h4 := (hp p (by omega)).1
      have e : pos p = k := one_place (by rw [hc p (by omega)]; decide) h4 h2
      exact .inl ⟨p, hpa, by simp [e, hk]⟩
    · exact .inr (f3 hpa hk)
theorem era_get {b : List Br} {k j : Nat} (hk : k < b.length) (hj : j < b.length) (hne : j ≠ k) : ∃ h : (if j < k then j else j - 1) < (b.take k ++ b.drop (k + 1)).length, (b.take k ++ b.drop (k + 1))[if j < k then j else j - 1]'h = b[j] := by
  have e : (b.take k ++ b.drop (k + 1))[if j < k then j else j - 1]? = some b[j] := by
    by_cases h : j < k
    · rw [if_pos h, List.getElem?_append_left (by simp; omega), List.getElem?_take_of_lt h, List.getElem?_eq_getElem hj]
    · rw [if_neg h, List.getElem?_append_right (by simp; omega), List.length_take, List.getElem?_drop, show k + 1 + (j - 1 - min k b.length) = j by omega, List.getElem?_eq_getElem hj]
  exact List.getElem?_eq_some_iff.1 e
theorem pm_mmr {c : Int} : ∀ a b : List Br, PM c a b → MMr c a b
  | [], b, ⟨g, _, _, h3⟩ => fun y hy => by
    obtain ⟨k, hk, rfl⟩ := List.getElem_of_mem hy
    rcases h3 k hk with ⟨x, hx, _⟩ | h
    · simp at hx
    · exact h
  | x :: a, b, ⟨g, h1, h2, h3⟩ => by
    rcases h1 0 (by simp) with ⟨k, hk, e, hap⟩ | ⟨e, hl⟩
    · refine .inr ⟨k, hk, hap, pm_mmr a _ ⟨fun i => (g (i + 1)).map fun j => if j < k then j else j - 1, fun i hi => ?_, fun i j m hi hj e1 e2 => ?_, fun m hm => ?_⟩⟩
      · rcases h1 (i + 1) (by simpa using hi) with ⟨j, hj, e', hap'⟩ | ⟨e', hl'⟩
        · have hne : j ≠ k := fun h => by subst h; have := h2 0 (i + 1) j (by simp) (by simpa using hi) e e'; omega
          obtain ⟨g1, g2⟩ := era_get hk hj hne
          exact .inl ⟨_, g1, by simp [e'], by rw [g2]; exact hap'⟩
        · exact .inr ⟨by simp [e'], hl'⟩
      · simp only [Option.map_eq_some_iff] at e1 e2
        obtain ⟨p, e1, f1⟩ := e1
        obtain ⟨q, e2, f2⟩ := e2
        have hp : p ≠ k := fun h => by subst h; have := h2 0 (i + 1) p (by simp) (by simpa using hi) e e1; omega
        have hq : q ≠ k := fun h => by subst h; have := h2 0 (j + 1) q (by simp) (by simpa using hj) e e2; omega
        have hpq : p = q := by split at f1 <;> split at f2 <;> omega
        subst hpq
        have := h2 (i + 1) (j + 1) p (by simpa using hi) (by simpa using hj) e1 e2
        omega
      · have hml : m + 1 < b.length ∨ m < k := by simp at hm; omega
        have hb : (if m < k then m else m + 1) < b.length := by split <;> omega
        have hne : (if m < k then m else m + 1) ≠ k := by split <;> omega
        have hback : (if (if m < k then m else m + 1) < k then (if m < k then m else m + 1) else (if m < k then m else m + 1) - 1) = m := by
          by_cases h : m < k
          · simp [h]
          · have : ¬ m + 1 < k := by omega
            simp [h, this]
        obtain ⟨g1, g2⟩ := era_get hk hb hne
        rcases h3 _ hb with ⟨i, hi, e'⟩ | h
        · cases i with
          | zero => rw [e] at e'; exact absurd (Option.some.inj e').symm hne
          | succ i => exact .inl ⟨i, by simpa using hi, by show Option.map _ (g (i + 1)) = _; rw [e']; simp [hback]⟩
        · refine .inr ?_
          rw [← g2] at h
          have : ∀ (j : Nat) (h' : j < (b.take k ++ b.drop (k + 1)).length), j = m → (b.take k ++ b.drop (k + 1))[j].len ≤ c → (b.take k ++ b.drop (k + 1))[m].len ≤ c := fun j h' ej hh => by subst ej; exact hh
          exact this _ g1 hback h
    · refine .inl ⟨hl, pm_mmr a b ⟨fun i => g (i + 1), fun i hi => ?_, fun i j m hi hj e1 e2 => ?_, fun m hm => ?_⟩⟩
      · rcases h1 (i + 1) (by simpa using hi) with ⟨j, hj, e', hap'⟩ | ⟨e', hl'⟩
        · exact .inl ⟨j, hj, e', hap'⟩
        · exact .inr ⟨e', hl'⟩
      · have := h2 (i + 1) (j + 1) m (by simpa using hi) (by simpa using hj) e1 e2; omega
      · rcases h3 m hm with ⟨i, hi, e'⟩ | h
        · cases i with
          | zero => rw [e] at e'; cases e'
          | succ i => exact .inl ⟨i, by simpa using hi, e'⟩
        · exact .inr h
theorem dd_least {a b : List Br} (ha : ∀ x ∈ a, x.len ≤ 1000) (hb : ∀ x ∈ b, x.len ≤ 1000) : dd a b 0 = leastF a b := by
  have h0 := leastF_bd 1000 (by omega) a b ha hb
  refine dd_eq h0.1 (pos_inj.2 (mmr_inj a b ((leastF_le h0.1 a b).1 (Int.le_refl _)))) fun d hd hp => (leastF_le hd a b).2 (pm_mmr a b (pos_pm hp))
theorem shortL_sm (l : List Duo) : ∀ b ∈ shortL l, Sm b ∧ Br.finIn 1 b = true ∧ Br.openIn 1 b = false := by
  intro b hb
  obtain ⟨t, ht, rfl⟩ := List.mem_map.1 hb
  have h1 := Int.emod_nonneg t.1 (show (30 : Int) ≠ 0 by omega)
  have h2 := Int.emod_nonneg t.2 (show (30 : Int) ≠ 0 by omega)
  have h3 := Int.emod_lt_of_pos t.1 (show (0 : Int) < 30 by omega)
  have h4 := Int.emod_lt_of_pos t.2 (show (0 : Int) < 30 by omega)
  refine ⟨⟨by simp [short1]; omega, by simp [short1]; omega, by simp [short1]; omega, by simp [short1]; omega⟩, ?_, rfl⟩
  have h5 : t.1 % 30 < t.1 % 30 + 1 + t.2 % 30 := by omega
  simp [Br.finIn, Br.cnt, short1, h5]
theorem short_dist (l m : List Duo) : dist2 1 (shortL l) (shortL m) = (leastF (shortL l) (shortL m), true) := by
  have e : ∀ l, birthsOf 1 (shortL l) = [] := fun l => births_none (List.filter_eq_nil_iff.2 fun b hb => by rw [(shortL_sm l b hb).2.2]; simp)
  have f : ∀ l, (shortL l).filter (Br.finIn 1) = shortL l := fun l => List.filter_eq_self.2 fun b hb => (shortL_sm l b hb).2.1
  unfold dist2
  rw [e, e, f, f, if_pos rfl, show leastOf (([] : List Int).zip []) = 0 from rfl, dd_least (fun x hx => (shortL_sm l x hx).1.len) (fun x hx => (shortL_sm m x hx).1.len)]
theorem least_comm (l m : List Duo) : leastF (shortL m) (shortL l) = leastF (shortL l) (shortL m) := by
  rw [← dd_least (fun x hx => (shortL_sm m x hx).1.len) (fun x hx => (shortL_sm l x hx).1.len), ← dd_least (fun x hx => (shortL_sm l x hx).1.len) (fun x hx => (shortL_sm m x hx).1.len), dd_symm]
theorem Sm.ok {b : Br} (h : Sm b) : BOk b := ⟨by have := h.b1; omega, by have := h.b2; omega, by have := h.d1; omega, by have := h.d2; omega⟩

theorem small_ok (l m : List Duo) (vl vm : Value) (h : Hp) (hl : RdL cU 2 h [] vl l) (hm : RdL cU 2 h [] vm m) (hL : ∀ t ∈ l, UOk t) (hM : ∀ t ∈ m, UOk t) :
    FnT Try.prog 4 #[vl, vm] h [] (fun r _ _ => r = .bool true) := by
  refine fn_enter Try.func4 Try.ntmps4 rfl rfl (fun w0 hw0 => ?_)
  simp only [argS]
  refine ws_seq ?_
  refine ws_region ?_
  refine wl_x (ox_assign rfl rfl) rfl rfl rfl ?_
  refine wl_nil ?_
  refine nx_then ?_
  refine ws_seq ?_
  refine ws_region ?_
  refine wl_x (ox_call rfl Try.call9 rfl (sanity_ok _ _)) rfl rfl rfl ?_
  refine wl_x (ox_assign rfl rfl) rfl rfl rfl ?_
  refine wl_nil ?_
  refine nx_then ?_
  refine ws_seq ?_
  refine ws_region ?_
  refine wl_x (ox_move rfl rfl) rfl rfl rfl ?_
  refine wl_call rfl Try.call14 rfl (short_ok l vl h hl hL) rfl rfl rfl (fun va h1 _ l1 hF => ?_)
  obtain ⟨rfl, hRa⟩ := hF
  refine wl_x (ox_assign rfl rfl) rfl rfl rfl ?_
  refine wl_nil ?_
  refine nx_then ?_
  refine ws_seq ?_
  refine ws_region ?_
  refine wl_x (ox_move rfl rfl) rfl rfl rfl ?_
  refine wl_call rfl Try.call14 rfl (short_ok m vm h1 (hm.up l1) hM) rfl rfl rfl (fun vb h2 _ l2 hF => ?_)
  obtain ⟨rfl, hRb⟩ := hF
  have hRa := hRa.up l2
  have la : (shortL l).length ≤ 4 := by simp [shortL]; omega
  have lb : (shortL m).length ≤ 4 := by simp [shortL]; omega
  have sa := fun x hx => (shortL_sm l x hx).1
  have sb := fun x hx => (shortL_sm m x hx).1
  refine wl_x (ox_assign rfl rfl) rfl rfl rfl ?_
  refine wl_nil ?_
  refine nx_then ?_
  refine ws_seq ?_
  refine ws_region ?_
  refine wl_x (ox_move rfl rfl) rfl rfl rfl ?_
  refine wl_x (ox_move rfl rfl) rfl rfl rfl ?_
  refine wl_x (ox_call rfl Try.call15 rfl (least_ok (shortL l) (shortL m) va vb h2 _ hRa hRb (by omega) (by omega) sa sb)) rfl rfl rfl ?_
  refine wl_x (ox_assign rfl rfl) rfl rfl rfl ?_
  refine wl_nil ?_
  refine nx_then ?_
  refine ws_seq ?_
  refine ws_region ?_
  refine wl_x (ox_move rfl rfl) rfl rfl rfl ?_
  refine wl_x (ox_move rfl rfl) rfl rfl rfl ?_
  refine wl_gx (ox_move rfl rfl) rfl rfl rfl rfl rfl rfl ?_
  refine wl_gx (ox_move rfl rfl) rfl rfl rfl rfl rfl rfl ?_
  refine wl_gx (ox_move rfl rfl) rfl rfl rfl rfl rfl rfl ?_
  refine wl_gx (ox_call rfl Try.call16 rfl (far_true (shortL l) (shortL m) va vb h2 hRa hRb (by omega) (by omega) (fun x hx => (sa x hx).ok) (fun x hx => (sb x hx).ok) _ _ (short_dist l m))) rfl rfl rfl rfl rfl rfl ?_
  refine wl_x (ox_pick_t rfl rfl rfl) rfl rfl rfl ?_
  refine wl_x (ox_move rfl rfl) rfl rfl rfl ?_
  refine wl_gx (ox_move rfl rfl) rfl rfl rfl rfl rfl rfl ?_
  refine wl_gx (ox_move rfl rfl) rfl rfl rfl rfl rfl rfl ?_
  refine wl_gx (ox_move rfl rfl) rfl rfl rfl rfl rfl rfl ?_
  rw [← least_comm l m]
  refine wl_gx (ox_call rfl Try.call16 rfl (far_true (shortL m) (shortL l) vb va h2 hRb hRa (by omega) (by omega) (fun x hx => (sb x hx).ok) (fun x hx => (sa x hx).ok) _ _ (short_dist m l))) rfl rfl rfl rfl rfl rfl ?_
  refine wl_x (ox_pick_t rfl rfl rfl) rfl rfl rfl ?_
  refine wl_x (ox_assign rfl rfl) rfl rfl rfl ?_
  refine wl_nil ?_
  refine nx_then ?_
  refine ws_ret ?_
  exact nx_ret1 rfl rfl (rfl)
end Go.Proofs.Ythdkhnjnhhofgaa
