/- Plain: the distances of the chapter's examples. -/
import Derived.Test.YthdkhnjnhhofgaaWp
set_option linter.unusedSimpArgs false
set_option linter.unusedVariables false
set_option maxRecDepth 100000
namespace Go.Proofs.Ythdkhnjnhhofgaa
open Go.Eng Go.RowKit Go.Kuhn

theorem pos_row {F : Nat → Nat → Bool} {n : Nat} (h : Pos F n) (x : Nat) (hx : x < n) : ∃ k, k < n ∧ F x k = true := by
  obtain ⟨part, hl, hK, hc⟩ := h
  obtain ⟨k, _, h2, h3⟩ := place_of hK (x := x) (by rw [hc x hx]; decide)
  exact ⟨k, by omega, h3⟩
theorem pos_of {F : Nat → Nat → Bool} (w : List Nat) (h1 : ∀ x, x < w.length → x ∈ w) (h2 : w.Nodup) (h3 : ∀ k (hk : k < w.length), w[k] < w.length ∧ F w[k] k = true) : Pos F w.length := by
  refine ⟨w.map fun x : Nat => (x : Int), by simp, fun k hk => ?_, fun x hx => ?_⟩
  · right
    have hk' : k < w.length := by simpa using hk
    exact ⟨w[k], by simp, (h3 k hk').1, (h3 k hk').2⟩
  · have hn : (w.map fun x : Nat => (x : Int)).Nodup := List.pairwise_map.2 (h2.imp fun h e => h (by omega))
    have h4 := List.nodup_iff_count.1 hn (x : Int)
    have h5 := List.count_pos_iff.2 (List.mem_map.2 ⟨x, h1 x hx, rfl⟩ : (x : Int) ∈ w.map fun x : Nat => (x : Int))
    omega
theorem dist2_eval {dim : Int} {la lb : List Br} {X Y : List Int} {p q : List Br} {L d : Int} (hX : birthsOf dim la = X) (hY : birthsOf dim lb = Y) (hl : X.length = Y.length) (hp : la.filter (Br.finIn dim) = p) (hq : lb.filter (Br.finIn dim) = q) (hL : leastOf (X.zip Y) = L) (hd : IsDist p q L d) : dist2 dim la lb = (d, true) := by
  refine dist2_of (fun h => absurd (by rw [hX, hY]; exact hl) h) fun _ => ⟨rfl, ?_⟩
  rw [hX, hY, hp, hq, hL]; exact hd
theorem isort_of {l l' : List Int} (h : l.Perm l') (hs : l'.Pairwise (· ≤ ·)) : isort l = l' := sorted_perm_eq (isort_sorted l) hs ((isort_perm l).trans h)
theorem births_none {dim : Int} {l : List Br} (h : l.filter (Br.openIn dim) = []) : birthsOf dim l = [] := by
  unfold birthsOf; rw [h]; exact isort_of (List.Perm.refl _) (by simp)

def fb (a b : Int) : Br := ⟨1, a, b, false, 0, 0⟩
def ob (a : Int) : Br := ⟨1, a, 0, true, 0, 0⟩
theorem sane1 : dist2 1 [fb 0 10] [fb 1 8] = (4, true) := by
  refine dist2_eval (X := []) (Y := []) (p := [fb 0 10]) (q := [fb 1 8]) (L := 0) (births_none (by decide)) (births_none (by decide)) rfl (by decide) (by decide) rfl ⟨by decide, by decide, ?_, fun c hc h0 hp => ?_⟩
  · exact pos_of [0, 1] (by simp; omega) (by decide) (by decide)
  · obtain ⟨k, hk, h⟩ := pos_row hp 0 (by decide)
    have hk : k < 2 := hk
    rcases (by omega : k = 0 ∨ k = 1) with rfl | rfl <;> simp [fitsD, fb, Br.apart, Br.len, iabs] at h <;> omega
theorem sane2 : dist2 1 [fb 0 10] [fb 20 24] = (10, true) := by
  refine dist2_eval (X := []) (Y := []) (p := [fb 0 10]) (q := [fb 20 24]) (L := 0) (births_none (by decide)) (births_none (by decide)) rfl (by decide) (by decide) rfl ⟨by decide, by decide, ?_, fun c hc h0 hp => ?_⟩
  · exact pos_of [1, 0] (by simp; omega) (by decide) (by decide)
  · obtain ⟨k, hk, h⟩ := pos_row hp 0 (by decide)
    have hk : k < 2 := hk
    rcases (by omega : k = 0 ∨ k = 1) with rfl | rfl <;> simp [fitsD, fb, Br.apart, Br.len, iabs] at h <;> omega
theorem sane3 : dist2 1 [fb 0 3, fb 0 10] [fb 0 10] = (3, true) := by
  refine dist2_eval (X := []) (Y := []) (p := [fb 0 3, fb 0 10]) (q := [fb 0 10]) (L := 0) (births_none (by decide)) (births_none (by decide)) rfl (by decide) (by decide) rfl ⟨by decide, by decide, ?_, fun c hc h0 hp => ?_⟩
  · exact pos_of [1, 0, 2] (by simp; omega) (by decide) (by decide)
  · obtain ⟨k, hk, h⟩ := pos_row hp 0 (by decide)
    have hk : k < 3 := hk
    rcases (by omega : k = 0 ∨ k = 1 ∨ k = 2) with rfl | rfl | rfl <;> simp [fitsD, fb, Br.apart, Br.len, iabs] at h <;> omega
theorem sane4 : dist2 1 [ob 0, ob 5] [ob 7, ob 1] = (4, true) := by
  refine dist2_eval (X := [0, 5]) (Y := [1, 7]) (p := []) (q := []) (L := 4) (isort_of (by decide) (by decide)) (isort_of (by decide) (by decide)) rfl (by decide) (by decide) (by decide) ⟨by decide, by decide, ?_, fun c hc h0 hp => h0⟩
  exact pos_of [] (by simp) (by decide) (by decide)
theorem sane5 : dist2 1 [ob 0] [fb 0 10] = (0, false) := by
  refine dist2_of (fun _ => ⟨rfl, rfl⟩) fun h => ?_
  rw [births_none (l := [fb 0 10]) (by decide)] at h
  have : birthsOf 1 [ob 0] = [0] := isort_of (by decide) (by decide)
  rw [this] at h; cases h
theorem sane6 : ([fb 0 10, ob 3].filter (Br.at 1 9)).length = 2 := by decide
theorem fb_ok {a b : Int} (h : -1000 ≤ a ∧ a ≤ 1000 ∧ -1000 ≤ b ∧ b ≤ 1000) : BOk (fb a b) := ⟨by show _ ≤ a; omega, by show a ≤ _; omega, by show _ ≤ b; omega, by show b ≤ _; omega⟩
theorem ob_ok {a : Int} (h : -1000 ≤ a ∧ a ≤ 1000) : BOk (ob a) := ⟨by show _ ≤ a; omega, by show a ≤ _; omega, by show (_ : Int) ≤ 0; omega, by show (0 : Int) ≤ _; omega⟩
end Go.Proofs.Ythdkhnjnhhofgaa
