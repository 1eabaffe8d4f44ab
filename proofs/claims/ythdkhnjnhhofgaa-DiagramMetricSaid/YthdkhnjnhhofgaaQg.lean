/- The law: distances are a metric. -/
import Derived.Test.YthdkhnjnhhofgaaQf
set_option linter.unusedSimpArgs false
set_option linter.unusedVariables false
set_option maxRecDepth 100000
namespace Go.Proofs.Ythdkhnjnhhofgaa
open Go.Eng Go.RowKit Go.Kuhn

/-- All distances so far are none. -/
def ZeroB (a b : List Br) (i : Nat) (z : Bool) : Prop := z = true ↔ ∀ d : Nat, d < i → dist2 d a b = (0, true)
theorem ZeroB.next {a b : List Br} {i : Nat} {z : Bool} (h : ZeroB a b i z) (u : Bool) (hu : u = true ↔ z = true ∧ dist2 i a b = (0, true)) : ZeroB a b (i + 1) u := by
  unfold ZeroB at *
  rw [hu, h]
  constructor
  · rintro ⟨h1, h2⟩ d hd
    by_cases e : d = i
    · subst e; exact h2
    · exact h1 d (by omega)
  · exact fun h' => ⟨fun d hd => h' d (by omega), h' i (by omega)⟩
theorem ZeroB.n1 {a b : List Br} {i : Nat} {z : Bool} (h : ZeroB a b i z) (h1 : z = true) (h2 : (dist2 i a b).2 = true) : ZeroB a b (i + 1) (decide ((dist2 i a b).1 = 0)) := by
  refine h.next _ ?_
  rw [show dist2 i a b = ((dist2 i a b).1, (dist2 i a b).2) from rfl, h2]
  simp [h1]
theorem ZeroB.n2 {a b : List Br} {i : Nat} {z : Bool} (h : ZeroB a b i z) (h1 : z = false ∨ (dist2 i a b).2 = false) : ZeroB a b (i + 1) false := by
  refine h.next _ ?_
  constructor
  · intro h; cases h
  · rintro ⟨g1, g2⟩
    rcases h1 with h1 | h1
    · rw [g1] at h1; cases h1
    · rw [g2] at h1; cases h1
theorem metric_ok (l : List Tri) (p q : List Int) (vl vp vq : Value) (h : Hp) (hl : RdL cT 3 h [] vl l) (hp : RdL cI 1 h [] vp p) (hq : RdL cI 1 h [] vq q) (hL : ∀ t ∈ l, TOk t) (hP : ∀ n ∈ p, I64 n) (hQ : ∀ n ∈ q, I64 n) :
    FnT Try.prog 7 #[vl, vp, vq] h [] (fun r _ _ => r = .bool true) := by
  refine fn_enter Try.func7 Try.ntmps7 rfl rfl (fun w0 hw0 => ?_)
  simp only [argS]
  refine ws_seq ?_
  refine ws_region ?_
  refine wl_x (ox_assign rfl rfl) rfl rfl rfl ?_
  refine wl_nil ?_
  refine nx_then ?_
  refine ws_seq ?_
  refine ws_region ?_
  refine wl_x (ox_call rfl Try.call9 rfl (sanity_ok _ _)) rfl rfl rfl ?_
  refine wl_x (ox_assign rfl rfl) rfl rfl rfl ?_
  refine wl_nil ?_
  refine nx_then ?_
  refine ws_seq ?_
  refine ws_region ?_
  refine wl_x (ox_move rfl rfl) rfl rfl rfl ?_
  refine wl_call rfl Try.call10 rfl (made_ok l vl h hl hL) rfl rfl rfl (fun va h1 _ l1 hF => ?_)
  obtain ⟨rfl, hRa⟩ := hF
  obtain ⟨la, ba⟩ := made_bd l
  refine wl_x (ox_assign rfl rfl) rfl rfl rfl ?_
  refine wl_nil ?_
  refine nx_then ?_
  refine ws_seq ?_
  refine ws_region ?_
  refine wl_x (ox_move rfl rfl) rfl rfl rfl ?_
  refine wl_x (ox_move rfl rfl) rfl rfl rfl ?_
  refine wl_call rfl Try.call11 rfl (moved_ok 2000000 (made l) p va vp h1 hRa (hp.up l1) (by omega) (by omega) ba hP) rfl rfl rfl (fun vb h2 _ l2 hF => ?_)
  obtain ⟨rfl, b, hRb, bb, lb⟩ := hF
  refine wl_x (ox_assign rfl rfl) rfl rfl rfl ?_
  refine wl_nil ?_
  refine nx_then ?_
  refine ws_seq ?_
  refine ws_region ?_
  refine wl_x (ox_move rfl rfl) rfl rfl rfl ?_
  refine wl_x (ox_move rfl rfl) rfl rfl rfl ?_
  refine wl_call rfl Try.call11 rfl (moved_ok 2000010 b q vb vq h2 hRb (hq.up (Hp.le_trans l1 l2)) (by omega) (by omega) bb hQ) rfl rfl rfl (fun vc h3 _ l3 hF => ?_)
  obtain ⟨rfl, c, hRc, bc, lc⟩ := hF
  have hRa := hRa.up (Hp.le_trans l2 l3)
  have hRb := hRb.up l3
  generalize made l = a at *
  have hA : ∀ x ∈ a, BOk x := fun x hx => (ba x hx).ok (by omega)
  have hB : ∀ x ∈ b, BOk x := fun x hx => (bb x hx).ok (by omega)
  have hC : ∀ x ∈ c, BOk x := fun x hx => (bc x hx).ok (by omega)
  refine wl_x (ox_assign rfl rfl) rfl rfl rfl ?_
  refine wl_nil ?_
  refine nx_then ?_
  refine ws_seq ?_
  refine ws_region ?_
  refine wl_x (ox_assign rfl rfl) rfl rfl rfl ?_
  refine wl_nil ?_
  refine nx_then ?_
  refine ws_seq ?_
  refine ws_seq ?_
  refine ws_region ?_
  refine wl_x (ox_assign rfl rfl) rfl rfl rfl ?_
  refine wl_nil ?_
  refine nx_then ?_
  refine ws_block ?_
  refine ws_loop (fun n s h' ms' => ∃ (i : Nat) (z : Bool), n = 3 - i ∧ s = [(7, .bool true), (8, va), (9, vb), (10, vc), (11, .bool z), (12, .int .i64 i)] ∧ h3 = h' ∧ ms' = [] ∧ i ≤ 3 ∧ ZeroB a b i z)
    (3 - 0) _ ⟨0, true, rfl, rfl, rfl, rfl, by omega, by simp [ZeroB]⟩ (by repeat (first | exact trivial | refine ⟨rfl, ?_⟩)) ?_
  rintro n s h' ms' ⟨i, z, rfl, rfl, rfl, rfl, hi, hZ⟩
  refine ws_seq ?_
  refine ws_seq ?_
  refine ws_region ?_
  refine wl_x (ox_move rfl rfl) rfl rfl rfl ?_
  refine wl_x (ox_lss rfl rfl rfl) rfl rfl rfl ?_
  refine wl_nil ?_
  refine nx_then ?_
  refine ws_if rfl (fun hlt => ?_) (fun hlt => ?_)
  · skip
    have hi3 : i < 3 := by omega
    have bx := dist2_bd i hA hB
    have by_ := dist2_bd i hB hC
    have htri := dist_tri i a b c
    refine ws_skip ?_
    refine nx_then ?_
    refine ws_seq ?_
    refine ws_block ?_
    refine ws_seq ?_
    refine ws_region ?_
    refine wl_x (ox_move rfl rfl) rfl rfl rfl ?_
    refine wl_x (ox_move rfl rfl) rfl rfl rfl ?_
    refine wl_x (ox_move rfl rfl) rfl rfl rfl ?_
    refine wl_x (ox_call rfl Try.call12 rfl (distance_v a b va vb i h3 hRa hRb (by omega) (by omega) hA hB _)) rfl rfl rfl ?_
    refine wl_x (ox_move rfl rfl) rfl rfl rfl ?_
    refine wl_x (ox_extract rfl rfl rfl) rfl rfl rfl ?_
    refine wl_x (ox_extract rfl rfl rfl) rfl rfl rfl ?_
    refine wl_x (ox_assign rfl rfl) rfl rfl rfl ?_
    refine wl_x (ox_assign rfl rfl) rfl rfl rfl ?_
    refine wl_nil ?_
    refine nx_then ?_
    refine ws_seq ?_
    refine ws_region ?_
    refine wl_x (ox_move rfl rfl) rfl rfl rfl ?_
    refine wl_x (ox_move rfl rfl) rfl rfl rfl ?_
    refine wl_x (ox_move rfl rfl) rfl rfl rfl ?_
    refine wl_x (ox_call rfl Try.call12 rfl (distance_v b c vb vc i h3 hRb hRc (by omega) (by omega) hB hC _)) rfl rfl rfl ?_
    refine wl_x (ox_move rfl rfl) rfl rfl rfl ?_
    refine wl_x (ox_extract rfl rfl rfl) rfl rfl rfl ?_
    refine wl_x (ox_extract rfl rfl rfl) rfl rfl rfl ?_
    refine wl_x (ox_assign rfl rfl) rfl rfl rfl ?_
    refine wl_x (ox_assign rfl rfl) rfl rfl rfl ?_
    refine wl_nil ?_
    refine nx_then ?_
    refine ws_seq ?_
    refine ws_region ?_
    refine wl_x (ox_move rfl rfl) rfl rfl rfl ?_
    refine wl_x (ox_move rfl rfl) rfl rfl rfl ?_
    refine wl_x (ox_move rfl rfl) rfl rfl rfl ?_
    refine wl_x (ox_call rfl Try.call12 rfl (distance_v a c va vc i h3 hRa hRc (by omega) (by omega) hA hC _)) rfl rfl rfl ?_
    refine wl_x (ox_move rfl rfl) rfl rfl rfl ?_
    refine wl_x (ox_extract rfl rfl rfl) rfl rfl rfl ?_
    refine wl_x (ox_extract rfl rfl rfl) rfl rfl rfl ?_
    refine wl_x (ox_assign rfl rfl) rfl rfl rfl ?_
    refine wl_x (ox_assign rfl rfl) rfl rfl rfl ?_
    refine wl_nil ?_
    refine nx_then ?_
    refine ws_seq ?_
    refine ws_region ?_
    refine wl_x (ox_move rfl rfl) rfl rfl rfl ?_
    refine wl_x (ox_move rfl rfl) rfl rfl rfl ?_
    refine wl_x (ox_move rfl rfl) rfl rfl rfl ?_
    refine wl_x (ox_call rfl Try.call12 rfl (distance_v b a vb va i h3 hRb hRa (by omega) (by omega) hB hA _)) rfl rfl rfl ?_
    rw [dist_symm i b a]
    refine wl_x (ox_move rfl rfl) rfl rfl rfl ?_
    refine wl_x (ox_extract rfl rfl rfl) rfl rfl rfl ?_
    refine wl_x (ox_extract rfl rfl rfl) rfl rfl rfl ?_
    refine wl_x (ox_assign rfl rfl) rfl rfl rfl ?_
    refine wl_x (ox_assign rfl rfl) rfl rfl rfl ?_
    refine wl_nil ?_
    refine nx_then ?_
    refine ws_seq ?_
    refine ws_seq ?_
    refine ws_region ?_
    refine wl_x (ox_move rfl rfl) rfl rfl rfl ?_
    refine wl_x (ox_move rfl rfl) rfl rfl rfl ?_
    refine wl_x (ox_nei rfl rfl rfl) rfl rfl rfl ?_
    refine wl_x (ox_move rfl rfl) rfl rfl rfl ?_
    refine wl_split (t := 65) rfl (fun hs => absurd hs (by simp)) (fun hs => ?_)
    refine wl_gx (ox_move rfl rfl) rfl rfl rfl rfl rfl rfl ?_
    refine wl_gx (ox_move rfl rfl) rfl rfl rfl rfl rfl rfl ?_
    refine wl_gx (ox_neb rfl Try.underlying4 rfl rfl) rfl rfl rfl rfl rfl rfl ?_
    refine wl_x (ox_pick_f rfl rfl rfl) rfl rfl rfl ?_
    refine wl_x (ox_move rfl rfl) rfl rfl rfl ?_
    refine wl_splitb (t := 70) rfl (fun n1 => ?_) (fun n1 => ?_)
    · skip
      simp at n1
    · skip
      refine wl_gx (ox_move rfl rfl) rfl rfl rfl rfl rfl rfl ?_
      refine wl_gx (ox_move rfl rfl) rfl rfl rfl rfl rfl rfl ?_
      refine wl_splitb (t := 72) rfl (fun he => ?_) (fun he => ?_)
      · skip
        refine wl_gx (ox_move rfl rfl) rfl rfl rfl rfl rfl rfl ?_
        refine wl_gx (ox_pick_t rfl rfl rfl) rfl rfl rfl rfl rfl rfl ?_
        refine wl_gx (ox_move rfl rfl) rfl rfl rfl rfl rfl rfl ?_
        refine wl_splitb (t := 75) rfl (fun hf => ?_) (fun hf => ?_)
        · skip
          obtain ⟨t1, t2⟩ := htri he hf
          refine wl_gx (ox_move rfl rfl) rfl rfl rfl rfl rfl rfl ?_
          refine wl_gx (ox_not rfl rfl) rfl rfl rfl rfl rfl rfl ?_
          refine wl_gx (ox_move rfl rfl) rfl rfl rfl rfl rfl rfl ?_
          refine wl_splitb (t := 78) rfl (fun hg => ?_) (fun hg => ?_)
          · skip
            rw [t1] at hg; simp at hg
          · skip
            refine wl_gx (ox_move rfl rfl) rfl rfl rfl rfl rfl rfl ?_
            refine wl_gx (ox_move rfl rfl) rfl rfl rfl rfl rfl rfl ?_
            refine wl_gx (ox_move rfl rfl) rfl rfl rfl rfl rfl rfl ?_
            refine wl_gx (ox_add rfl rfl rfl (by omega)) rfl rfl rfl rfl rfl rfl ?_
            refine wl_gx (ox_gtr rfl rfl rfl) rfl rfl rfl rfl rfl rfl ?_
            refine wl_gx (ox_pick_f rfl rfl rfl) rfl rfl rfl rfl rfl rfl ?_
            refine wl_gx (ox_pick_t rfl rfl rfl) rfl rfl rfl rfl rfl rfl ?_
            refine wl_x (ox_pick_f rfl rfl rfl) rfl rfl rfl ?_
            refine wl_x (ox_move rfl rfl) rfl rfl rfl ?_
            refine wl_split (t := 87) rfl (fun hs => absurd hs (by omega)) (fun hs => ?_)
            refine wl_gx (ox_move rfl rfl) rfl rfl rfl rfl rfl rfl ?_
            refine wl_gx (ox_lss rfl rfl rfl) rfl rfl rfl rfl rfl rfl ?_
            refine wl_x (ox_pick_f rfl rfl rfl) rfl rfl rfl ?_
            refine wl_nil ?_
            refine nx_then ?_
            refine ws_if rfl (fun hc => absurd hc (by omega)) (fun hc => ?_)
            refine ws_skip ?_
            refine nx_then ?_
            refine ws_region ?_
            refine wl_x (ox_move rfl rfl) rfl rfl rfl ?_
            refine wl_x (ox_move rfl rfl) rfl rfl rfl ?_
            refine wl_splitb (t := 92) rfl (fun z1 => ?_) (fun z1 => ?_)
            · skip
              refine wl_gx (ox_move rfl rfl) rfl rfl rfl rfl rfl rfl ?_
              refine wl_x (ox_pick_t rfl rfl rfl) rfl rfl rfl ?_
              refine wl_x (ox_move rfl rfl) rfl rfl rfl ?_
              refine wl_splitb (t := 95) rfl (fun z2 => ?_) (fun z2 => ?_)
              · skip
                refine wl_gx (ox_move rfl rfl) rfl rfl rfl rfl rfl rfl ?_
                refine wl_gx (ox_eqi rfl rfl rfl) rfl rfl rfl rfl rfl rfl ?_
                refine wl_x (ox_pick_t rfl rfl rfl) rfl rfl rfl ?_
                refine wl_x (ox_assign rfl rfl) rfl rfl rfl ?_
                refine wl_nil ?_
                refine nx_block ?_
                refine nx_then ?_
                refine ws_region ?_
                refine wl_x (ox_move rfl rfl) rfl rfl rfl ?_
                refine wl_x (ox_add rfl rfl rfl (by omega)) rfl rfl rfl ?_
                refine wl_x (ox_assign rfl rfl) rfl rfl rfl ?_
                refine wl_nil ?_
                refine nx_round (3 - (i + 1)) _ (by omega) ⟨i + 1, _, rfl, rfl, rfl, rfl, by omega, hZ.n1 z1 z2⟩ (by repeat (first | exact trivial | refine ⟨rfl, ?_⟩))
              · skip
                refine wl_skip rfl rfl rfl rfl rfl rfl rfl ?_
                refine wl_skip rfl rfl rfl rfl rfl rfl rfl ?_
                refine wl_x (ox_pick_f rfl rfl rfl) rfl rfl rfl ?_
                refine wl_x (ox_assign rfl rfl) rfl rfl rfl ?_
                refine wl_nil ?_
                refine nx_block ?_
                refine nx_then ?_
                refine ws_region ?_
                refine wl_x (ox_move rfl rfl) rfl rfl rfl ?_
                refine wl_x (ox_add rfl rfl rfl (by omega)) rfl rfl rfl ?_
                refine wl_x (ox_assign rfl rfl) rfl rfl rfl ?_
                refine wl_nil ?_
                refine nx_round (3 - (i + 1)) _ (by omega) ⟨i + 1, false, rfl, rfl, rfl, rfl, by omega, hZ.n2 (.inr z2)⟩ (by repeat (first | exact trivial | refine ⟨rfl, ?_⟩))
            · skip
              refine wl_skip rfl rfl rfl rfl rfl rfl rfl ?_
              refine wl_x (ox_pick_f rfl rfl rfl) rfl rfl rfl ?_
              refine wl_x (ox_move rfl rfl) rfl rfl rfl ?_
              refine wl_skip rfl rfl rfl rfl rfl rfl rfl ?_
              refine wl_skip rfl rfl rfl rfl rfl rfl rfl ?_
              refine wl_x (ox_pick_f rfl rfl rfl) rfl rfl rfl ?_
              refine wl_x (ox_assign rfl rfl) rfl rfl rfl ?_
              refine wl_nil ?_
              refine nx_block ?_
              refine nx_then ?_
              refine ws_region ?_
              refine wl_x (ox_move rfl rfl) rfl rfl rfl ?_
              refine wl_x (ox_add rfl rfl rfl (by omega)) rfl rfl rfl ?_
              refine wl_x (ox_assign rfl rfl) rfl rfl rfl ?_
              refine wl_nil ?_
              refine nx_round (3 - (i + 1)) _ (by omega) ⟨i + 1, false, rfl, rfl, rfl, rfl, by omega, hZ.n2 (.inl z1)⟩ (by repeat (first | exact trivial | refine ⟨rfl, ?_⟩))
        · skip
          refine wl_skip rfl rfl rfl rfl rfl rfl rfl ?_
          refine wl_skip rfl rfl rfl rfl rfl rfl rfl ?_
          refine wl_skip rfl rfl rfl rfl rfl rfl rfl ?_
          refine wl_skipu rfl rfl rfl rfl rfl rfl ?_
          refine wl_skipu rfl rfl rfl rfl rfl rfl ?_
          refine wl_skipu rfl rfl rfl rfl rfl rfl ?_
          refine wl_skipu rfl rfl rfl rfl rfl rfl ?_
          refine wl_skipu rfl rfl rfl rfl rfl rfl ?_
          refine wl_skip rfl rfl rfl rfl rfl rfl rfl ?_
          refine wl_gx (ox_pick_f rfl rfl rfl) rfl rfl rfl rfl rfl rfl ?_
          refine wl_x (ox_pick_f rfl rfl rfl) rfl rfl rfl ?_
          refine wl_x (ox_move rfl rfl) rfl rfl rfl ?_
          refine wl_gx (ox_move rfl rfl) rfl rfl rfl rfl rfl rfl ?_
          refine wl_gx (ox_lss rfl rfl rfl) rfl rfl rfl rfl rfl rfl ?_
          refine wl_x (ox_pick_f rfl rfl rfl) rfl rfl rfl ?_
          refine wl_nil ?_
          refine nx_then ?_
          refine ws_if rfl (fun hc => absurd hc (by omega)) (fun hc => ?_)
          refine ws_skip ?_
          refine nx_then ?_
          refine ws_region ?_
          refine wl_x (ox_move rfl rfl) rfl rfl rfl ?_
          refine wl_x (ox_move rfl rfl) rfl rfl rfl ?_
          refine wl_splitb (t := 92) rfl (fun z1 => ?_) (fun z1 => ?_)
          · skip
            refine wl_gx (ox_move rfl rfl) rfl rfl rfl rfl rfl rfl ?_
            refine wl_x (ox_pick_t rfl rfl rfl) rfl rfl rfl ?_
            refine wl_x (ox_move rfl rfl) rfl rfl rfl ?_
            refine wl_splitb (t := 95) rfl (fun z2 => ?_) (fun z2 => ?_)
            · skip
              refine wl_gx (ox_move rfl rfl) rfl rfl rfl rfl rfl rfl ?_
              refine wl_gx (ox_eqi rfl rfl rfl) rfl rfl rfl rfl rfl rfl ?_
              refine wl_x (ox_pick_t rfl rfl rfl) rfl rfl rfl ?_
              refine wl_x (ox_assign rfl rfl) rfl rfl rfl ?_
              refine wl_nil ?_
              refine nx_block ?_
              refine nx_then ?_
              refine ws_region ?_
              refine wl_x (ox_move rfl rfl) rfl rfl rfl ?_
              refine wl_x (ox_add rfl rfl rfl (by omega)) rfl rfl rfl ?_
              refine wl_x (ox_assign rfl rfl) rfl rfl rfl ?_
              refine wl_nil ?_
              refine nx_round (3 - (i + 1)) _ (by omega) ⟨i + 1, _, rfl, rfl, rfl, rfl, by omega, hZ.n1 z1 z2⟩ (by repeat (first | exact trivial | refine ⟨rfl, ?_⟩))
            · skip
              refine wl_skip rfl rfl rfl rfl rfl rfl rfl ?_
              refine wl_skip rfl rfl rfl rfl rfl rfl rfl ?_
              refine wl_x (ox_pick_f rfl rfl rfl) rfl rfl rfl ?_
              refine wl_x (ox_assign rfl rfl) rfl rfl rfl ?_
              refine wl_nil ?_
              refine nx_block ?_
              refine nx_then ?_
              refine ws_region ?_
              refine wl_x (ox_move rfl rfl) rfl rfl rfl ?_
              refine wl_x (ox_add rfl rfl rfl (by omega)) rfl rfl rfl ?_
              refine wl_x (ox_assign rfl rfl) rfl rfl rfl ?_
              refine wl_nil ?_
              refine nx_round (3 - (i + 1)) _ (by omega) ⟨i + 1, false, rfl, rfl, rfl, rfl, by omega, hZ.n2 (.inr z2)⟩ (by repeat (first | exact trivial | refine ⟨rfl, ?_⟩))
          · skip
            refine wl_skip rfl rfl rfl rfl rfl rfl rfl ?_
            refine wl_x (ox_pick_f rfl rfl rfl) rfl rfl rfl ?_
            refine wl_x (ox_move rfl rfl) rfl rfl rfl ?_
            refine wl_skip rfl rfl rfl rfl rfl rfl rfl ?_
            refine wl_skip rfl rfl rfl rfl rfl rfl rfl ?_
            refine wl_x (ox_pick_f rfl rfl rfl) rfl rfl rfl ?_
            refine wl_x (ox_assign rfl rfl) rfl rfl rfl ?_
            refine wl_nil ?_
            refine nx_block ?_
            refine nx_then ?_
            refine ws_region ?_
            refine wl_x (ox_move rfl rfl) rfl rfl rfl ?_
            refine wl_x (ox_add rfl rfl rfl (by omega)) rfl rfl rfl ?_
            refine wl_x (ox_assign rfl rfl) rfl rfl rfl ?_
            refine wl_nil ?_
            refine nx_round (3 - (i + 1)) _ (by omega) ⟨i + 1, false, rfl, rfl, rfl, rfl, by omega, hZ.n2 (.inl z1)⟩ (by repeat (first | exact trivial | refine ⟨rfl, ?_⟩))
      · skip
        refine wl_skip rfl rfl rfl rfl rfl rfl rfl ?_
        refine wl_gx (ox_pick_f rfl rfl rfl) rfl rfl rfl rfl rfl rfl ?_
        refine wl_gx (ox_move rfl rfl) rfl rfl rfl rfl rfl rfl ?_
        refine wl_skip rfl rfl rfl rfl rfl rfl rfl ?_
        refine wl_skip rfl rfl rfl rfl rfl rfl rfl ?_
        refine wl_skip rfl rfl rfl rfl rfl rfl rfl ?_
        refine wl_skipu rfl rfl rfl rfl rfl rfl ?_
        refine wl_skipu rfl rfl rfl rfl rfl rfl ?_
        refine wl_skipu rfl rfl rfl rfl rfl rfl ?_
        refine wl_skipu rfl rfl rfl rfl rfl rfl ?_
        refine wl_skipu rfl rfl rfl rfl rfl rfl ?_
        refine wl_skip rfl rfl rfl rfl rfl rfl rfl ?_
        refine wl_gx (ox_pick_f rfl rfl rfl) rfl rfl rfl rfl rfl rfl ?_
        refine wl_x (ox_pick_f rfl rfl rfl) rfl rfl rfl ?_
        refine wl_x (ox_move rfl rfl) rfl rfl rfl ?_
        refine wl_gx (ox_move rfl rfl) rfl rfl rfl rfl rfl rfl ?_
        refine wl_gx (ox_lss rfl rfl rfl) rfl rfl rfl rfl rfl rfl ?_
        refine wl_x (ox_pick_f rfl rfl rfl) rfl rfl rfl ?_
        refine wl_nil ?_
        refine nx_then ?_
        refine ws_if rfl (fun hc => absurd hc (by omega)) (fun hc => ?_)
        refine ws_skip ?_
        refine nx_then ?_
        refine ws_region ?_
        refine wl_x (ox_move rfl rfl) rfl rfl rfl ?_
        refine wl_x (ox_move rfl rfl) rfl rfl rfl ?_
        refine wl_splitb (t := 92) rfl (fun z1 => ?_) (fun z1 => ?_)
        · skip
          refine wl_gx (ox_move rfl rfl) rfl rfl rfl rfl rfl rfl ?_
          refine wl_x (ox_pick_t rfl rfl rfl) rfl rfl rfl ?_
          refine wl_x (ox_move rfl rfl) rfl rfl rfl ?_
          refine wl_splitb (t := 95) rfl (fun z2 => ?_) (fun z2 => ?_)
          · skip
            refine wl_gx (ox_move rfl rfl) rfl rfl rfl rfl rfl rfl ?_
            refine wl_gx (ox_eqi rfl rfl rfl) rfl rfl rfl rfl rfl rfl ?_
            refine wl_x (ox_pick_t rfl rfl rfl) rfl rfl rfl ?_
            refine wl_x (ox_assign rfl rfl) rfl rfl rfl ?_
            refine wl_nil ?_
            refine nx_block ?_
            refine nx_then ?_
            refine ws_region ?_
            refine wl_x (ox_move rfl rfl) rfl rfl rfl ?_
            refine wl_x (ox_add rfl rfl rfl (by omega)) rfl rfl rfl ?_
            refine wl_x (ox_assign rfl rfl) rfl rfl rfl ?_
            refine wl_nil ?_
            refine nx_round (3 - (i + 1)) _ (by omega) ⟨i + 1, _, rfl, rfl, rfl, rfl, by omega, hZ.n1 z1 z2⟩ (by repeat (first | exact trivial | refine ⟨rfl, ?_⟩))
          · skip
            refine wl_skip rfl rfl rfl rfl rfl rfl rfl ?_
            refine wl_skip rfl rfl rfl rfl rfl rfl rfl ?_
            refine wl_x (ox_pick_f rfl rfl rfl) rfl rfl rfl ?_
            refine wl_x (ox_assign rfl rfl) rfl rfl rfl ?_
            refine wl_nil ?_
            refine nx_block ?_
            refine nx_then ?_
            refine ws_region ?_
            refine wl_x (ox_move rfl rfl) rfl rfl rfl ?_
            refine wl_x (ox_add rfl rfl rfl (by omega)) rfl rfl rfl ?_
            refine wl_x (ox_assign rfl rfl) rfl rfl rfl ?_
            refine wl_nil ?_
            refine nx_round (3 - (i + 1)) _ (by omega) ⟨i + 1, false, rfl, rfl, rfl, rfl, by omega, hZ.n2 (.inr z2)⟩ (by repeat (first | exact trivial | refine ⟨rfl, ?_⟩))
        · skip
          refine wl_skip rfl rfl rfl rfl rfl rfl rfl ?_
          refine wl_x (ox_pick_f rfl rfl rfl) rfl rfl rfl ?_
          refine wl_x (ox_move rfl rfl) rfl rfl rfl ?_
          refine wl_skip rfl rfl rfl rfl rfl rfl rfl ?_
          refine wl_skip rfl rfl rfl rfl rfl rfl rfl ?_
          refine wl_x (ox_pick_f rfl rfl rfl) rfl rfl rfl ?_
          refine wl_x (ox_assign rfl rfl) rfl rfl rfl ?_
          refine wl_nil ?_
          refine nx_block ?_
          refine nx_then ?_
          refine ws_region ?_
          refine wl_x (ox_move rfl rfl) rfl rfl rfl ?_
          refine wl_x (ox_add rfl rfl rfl (by omega)) rfl rfl rfl ?_
          refine wl_x (ox_assign rfl rfl) rfl rfl rfl ?_
          refine wl_nil ?_
          refine nx_round (3 - (i + 1)) _ (by omega) ⟨i + 1, false, rfl, rfl, rfl, rfl, by omega, hZ.n2 (.inl z1)⟩ (by repeat (first | exact trivial | refine ⟨rfl, ?_⟩))
  · skip
    obtain rfl : i = 3 := by omega
    have hs : sameB a b = z := by
      rw [Bool.eq_iff_iff, show z = true ↔ _ from hZ]
      exact ⟨fun h d _ => same_zero h d, fun h => zero_same (fun x hx => ⟨(ba x hx).n1, (ba x hx).n2⟩) (fun x hx => ⟨(bb x hx).n1, (bb x hx).n2⟩) fun d h0 h2 => by
        obtain ⟨k, rfl⟩ : ∃ k : Nat, d = k := ⟨d.toNat, by omega⟩
        exact h k (by omega)⟩
    refine ws_exit ?_
    refine nx_then_exit ?_
    refine nx_then_exit ?_
    refine nx_block_exit ?_
    refine nx_then ?_
    refine ws_seq ?_
    refine ws_region ?_
    refine wl_x (ox_move rfl rfl) rfl rfl rfl ?_
    refine wl_x (ox_move rfl rfl) rfl rfl rfl ?_
    refine wl_gx (ox_move rfl rfl) rfl rfl rfl rfl rfl rfl ?_
    refine wl_gx (ox_move rfl rfl) rfl rfl rfl rfl rfl rfl ?_
    refine wl_gx (ox_call rfl Try.call18 rfl (same_v a b va vb h3 hRa hRb (by omega) (by omega) (fun x hx => (ba x hx).kok (by omega)) (fun x hx => (bb x hx).kok (by omega)) _)) rfl rfl rfl rfl rfl rfl ?_
    rw [hs]
    refine wl_gx (ox_move rfl rfl) rfl rfl rfl rfl rfl rfl ?_
    refine wl_gx (ox_eqb rfl Try.underlying4 rfl rfl) rfl rfl rfl rfl rfl rfl ?_
    refine wl_x (ox_pick_t rfl rfl rfl) rfl rfl rfl ?_
    refine wl_x (ox_move rfl rfl) rfl rfl rfl ?_
    refine wl_splitb (t := 107) rfl (fun hz => ?_) (fun hz => ?_)
    · skip
      refine wl_gx (ox_move rfl rfl) rfl rfl rfl rfl rfl rfl ?_
      refine wl_gx (ox_move rfl rfl) rfl rfl rfl rfl rfl rfl ?_
      refine wl_gx (ox_call rfl Try.call18 rfl (same_v a a va va h3 hRa hRa (by omega) (by omega) (fun x hx => (ba x hx).kok (by omega)) (fun x hx => (ba x hx).kok (by omega)) _)) rfl rfl rfl rfl rfl rfl ?_
      refine wl_x (ox_pick_t rfl rfl rfl) rfl rfl rfl ?_
      refine wl_x (ox_assign rfl rfl) rfl rfl rfl ?_
      refine wl_nil ?_
      refine nx_then ?_
      refine ws_ret ?_
      exact nx_ret1 rfl rfl (by rw [sameB_refl])
    · skip
      simp at hz
end Go.Proofs.Ythdkhnjnhhofgaa
