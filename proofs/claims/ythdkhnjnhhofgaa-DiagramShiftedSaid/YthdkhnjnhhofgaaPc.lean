/- The law on orders. -/
import Derived.Test.YthdkhnjnhhofgaaPb
set_option linter.unusedSimpArgs false
set_option linter.unusedVariables false
set_option maxRecDepth 100000
namespace Go.Proofs.Ythdkhnjnhhofgaa
open Go.Eng Go.RowKit Go.Kuhn

theorem filter_two {f g : Br → Bool} {t : Br → Br} {u : Br → Br} (h1 : ∀ b, f (t b) = g b) (h2 : ∀ b, f (u b) = false) : ∀ l : List Br, (l.flatMap fun b => [t b, u b]).filter f = (l.filter g).map t
  | [] => rfl
  | b :: l => by
    rw [List.flatMap_cons, List.filter_append, filter_two h1 h2 l]
    cases hg : g b <;> simp [h1, h2, hg]
theorem turned_open (dim : Int) (l : List Br) : (turned l).filter (Br.openIn dim) = ((l.reverse).filter (Br.openIn dim)).map Br.tw :=
  filter_two (fun b => rfl) (fun b => by simp [Br.openIn, Br.jk]) _
theorem turned_fin (dim : Int) (l : List Br) : (turned l).filter (Br.finIn dim) = ((l.reverse).filter (Br.finIn dim)).map Br.tw :=
  filter_two (fun b => by unfold Br.finIn Br.cnt Br.tw; cases h : b.opn <;> simp) (fun b => by simp [Br.finIn, Br.jk, Br.cnt]) _
theorem turned_births (dim : Int) (l : List Br) : birthsOf dim (turned l) = birthsOf dim l := by
  unfold birthsOf
  refine isort_of ?_ (isort_sorted _) |>.trans rfl
  rw [turned_open, List.map_map]
  refine List.Perm.trans ?_ (isort_perm _).symm
  rw [show Br.birth ∘ Br.tw = Br.birth from rfl]
  exact ((List.reverse_perm l).filter _).map _
theorem turned_sim (dim : Int) (l : List Br) : SimL ((turned l).filter (Br.finIn dim)) (l.filter (Br.finIn dim)) ∧ SimL (l.filter (Br.finIn dim)) ((turned l).filter (Br.finIn dim)) := by
  have h1 := (List.reverse_perm l).filter (Br.finIn dim)
  have h2 : ∀ b ∈ l.reverse.filter (Br.finIn dim), (Br.tw b).sim (id b) := fun b hb => by
    have := (List.mem_filter.1 hb).2
    unfold Br.finIn at this
    simp at this
    simp [Br.sim, Br.tw, this.1.2]
  rw [turned_fin]
  constructor
  · have := SimL.of_map (f := Br.tw) (g := id) h1 h2
    simpa using this
  · have := SimL.of_map (f := id) (g := Br.tw) h1.symm fun b hb => ⟨(h2 b (h1.mem_iff.2 hb)).1.symm, (h2 b (h1.mem_iff.2 hb)).2.symm⟩
    simpa using this
theorem turned_dist (dim : Int) (a b : List Br) : dist2 dim (turned a) (turned b) = dist2 dim a b := by
  unfold dist2
  rw [turned_births, turned_births]
  split
  · rw [dd_congr (turned_sim dim a).1 (turned_sim dim a).2 (turned_sim dim b).1 (turned_sim dim b).2]
  · rfl
theorem turned_bd {l : List Br} (h : ∀ b ∈ l, Bd 2000000 b) : ∀ b ∈ turned l, Bd 2000000 b := by
  intro b hb
  obtain ⟨x, hx, hb⟩ := List.mem_flatMap.1 hb
  obtain ⟨g1, g2, g3, g4, g5, g6⟩ := h x (by simpa using hx)
  simp at hb
  rcases hb with rfl | rfl
  · exact ⟨g1, g2, by show -2000000 ≤ (if x.opn then -x.death else x.death); split <;> omega, by show (if x.opn then -x.death else x.death) ≤ 2000000; split <;> omega, g5, g6⟩
  · exact ⟨by show (-2000000 : Int) ≤ 5; omega, by show (5 : Int) ≤ 2000000; omega, by show (-2000000 : Int) ≤ 5; omega, by show (5 : Int) ≤ 2000000; omega, g5, g6⟩
theorem turned_len (l : List Br) : (turned l).length = 2 * l.length := by
  unfold turned
  have : ∀ l' : List Br, (l'.flatMap fun b => [b.tw, b.jk]).length = 2 * l'.length := fun l' => by
    induction l' with
    | nil => rfl
    | cons a l' ih => rw [List.flatMap_cons, List.length_append, ih]; simp; omega
  rw [this, List.length_reverse]

theorem order_ok (l m : List Tri) (vl vm : Value) (h : Hp) (hl : RdL cT 3 h [] vl l) (hm : RdL cT 3 h [] vm m) (hL : ∀ t ∈ l, TOk t) (hM : ∀ t ∈ m, TOk t) :
    FnT Try.prog 6 #[vl, vm] h [] (fun r _ _ => r = .bool true) := by
  refine fn_enter Try.func6 Try.ntmps6 rfl rfl (fun w0 hw0 => ?_)
  simp only [argS]
  refine ws_seq ?_
  refine ws_region ?_
  refine wl_x (ox_assign rfl rfl) rfl rfl rfl ?_
  refine wl_nil ?_
  refine nx_then ?_
  refine ws_seq ?_
  refine ws_region ?_
  refine wl_x (ox_call rfl Try.call9 rfl (sanity_ok _ _)) rfl rfl rfl ?_
  refine wl_x (ox_assign rfl rfl) rfl rfl rfl ?_
  refine wl_nil ?_
  refine nx_then ?_
  refine ws_seq ?_
  refine ws_region ?_
  refine wl_x (ox_move rfl rfl) rfl rfl rfl ?_
  refine wl_call rfl Try.call10 rfl (made_ok l vl h hl hL) rfl rfl rfl (fun va h1 _ l1 hF => ?_)
  obtain ⟨rfl, hRa⟩ := hF
  obtain ⟨la, ba⟩ := made_bd l
  refine wl_x (ox_assign rfl rfl) rfl rfl rfl ?_
  refine wl_nil ?_
  refine nx_then ?_
  refine ws_seq ?_
  refine ws_region ?_
  refine wl_x (ox_move rfl rfl) rfl rfl rfl ?_
  refine wl_call rfl Try.call10 rfl (made_ok m vm h1 (hm.up l1) hM) rfl rfl rfl (fun vb h2 _ l2 hF => ?_)
  obtain ⟨rfl, hRb⟩ := hF
  obtain ⟨lb, bb⟩ := made_bd m
  have hRa := hRa.up l2
  generalize made l = a at *
  generalize made m = b at *
  have hA : ∀ x ∈ a, BOk x := fun x hx => (ba x hx).ok (by omega)
  have hB : ∀ x ∈ b, BOk x := fun x hx => (bb x hx).ok (by omega)
  have hA2 : ∀ x ∈ turned a, BOk x := fun x hx => (turned_bd ba x hx).ok (by omega)
  have hB2 : ∀ x ∈ turned b, BOk x := fun x hx => (turned_bd bb x hx).ok (by omega)
  have ta := turned_len a
  have tb := turned_len b
  refine wl_x (ox_assign rfl rfl) rfl rfl rfl ?_
  refine wl_nil ?_
  refine nx_then ?_
  refine ws_seq ?_
  refine ws_seq ?_
  refine ws_region ?_
  refine wl_x (ox_assign rfl rfl) rfl rfl rfl ?_
  refine wl_nil ?_
  refine nx_then ?_
  refine ws_block ?_
  refine ws_loop (fun n s h' ms' => ∃ (i : Nat), n = 3 - i ∧ s = [(5, .bool true), (6, va), (7, vb), (8, .int .i64 i)] ∧ h2.le h' ∧ ms' = [] ∧ i ≤ 3)
    (3 - 0) _ ⟨0, rfl, rfl, Hp.le_refl _, rfl, by omega⟩ (by repeat (first | exact trivial | refine ⟨rfl, ?_⟩)) ?_
  rintro n s h3 ms' ⟨i, rfl, rfl, l3, rfl, hi⟩
  have hRa := hRa.up l3
  have hRb := hRb.up l3
  refine ws_seq ?_
  refine ws_seq ?_
  refine ws_region ?_
  refine wl_x (ox_move rfl rfl) rfl rfl rfl ?_
  refine wl_x (ox_lss rfl rfl rfl) rfl rfl rfl ?_
  refine wl_nil ?_
  refine nx_then ?_
  refine ws_if rfl (fun hlt => ?_) (fun hlt => ?_)
  · skip
    refine ws_skip ?_
    refine nx_then ?_
    refine ws_seq ?_
    refine ws_block ?_
    refine ws_seq ?_
    refine ws_region ?_
    refine wl_x (ox_move rfl rfl) rfl rfl rfl ?_
    refine wl_x (ox_move rfl rfl) rfl rfl rfl ?_
    refine wl_x (ox_move rfl rfl) rfl rfl rfl ?_
    refine wl_x (ox_call rfl Try.call12 rfl (distance_v a b va vb i h3 hRa hRb (by omega) (by omega) hA hB _)) rfl rfl rfl ?_
    refine wl_x (ox_move rfl rfl) rfl rfl rfl ?_
    refine wl_x (ox_extract rfl rfl rfl) rfl rfl rfl ?_
    refine wl_x (ox_extract rfl rfl rfl) rfl rfl rfl ?_
    refine wl_x (ox_assign rfl rfl) rfl rfl rfl ?_
    refine wl_x (ox_assign rfl rfl) rfl rfl rfl ?_
    refine wl_nil ?_
    refine nx_then ?_
    refine ws_seq ?_
    refine ws_region ?_
    refine wl_x (ox_move rfl rfl) rfl rfl rfl ?_
    refine wl_call rfl Try.call17 rfl (turned_ok a va h3 hRa (by omega) hA) rfl rfl rfl (fun v1 h4 _ l4 hF => ?_)
    obtain ⟨rfl, hR1⟩ := hF
    refine wl_x (ox_move rfl rfl) rfl rfl rfl ?_
    refine wl_call rfl Try.call17 rfl (turned_ok b vb h4 (hRb.up l4) (by omega) hB) rfl rfl rfl (fun v2 h5 _ l5 hF => ?_)
    obtain ⟨rfl, hR2⟩ := hF
    refine wl_x (ox_move rfl rfl) rfl rfl rfl ?_
    refine wl_x (ox_call rfl Try.call12 rfl (distance_v (turned a) (turned b) v1 v2 i h5 (hR1.up l5) hR2 (by omega) (by omega) hA2 hB2 _)) rfl rfl rfl ?_
    rw [turned_dist]
    refine wl_x (ox_move rfl rfl) rfl rfl rfl ?_
    refine wl_x (ox_extract rfl rfl rfl) rfl rfl rfl ?_
    refine wl_x (ox_extract rfl rfl rfl) rfl rfl rfl ?_
    refine wl_x (ox_assign rfl rfl) rfl rfl rfl ?_
    refine wl_x (ox_assign rfl rfl) rfl rfl rfl ?_
    refine wl_nil ?_
    refine nx_then ?_
    refine ws_seq ?_
    refine ws_region ?_
    refine wl_x (ox_move rfl rfl) rfl rfl rfl ?_
    refine wl_x (ox_move rfl rfl) rfl rfl rfl ?_
    refine wl_x (ox_nei rfl rfl rfl) rfl rfl rfl ?_
    refine wl_x (ox_move rfl rfl) rfl rfl rfl ?_
    refine wl_split (t := 41) rfl (fun hs => absurd hs (by simp)) (fun hs => ?_)
    refine wl_gx (ox_move rfl rfl) rfl rfl rfl rfl rfl rfl ?_
    refine wl_gx (ox_move rfl rfl) rfl rfl rfl rfl rfl rfl ?_
    refine wl_gx (ox_neb rfl Try.underlying4 rfl rfl) rfl rfl rfl rfl rfl rfl ?_
    refine wl_x (ox_pick_f rfl rfl rfl) rfl rfl rfl ?_
    refine wl_nil ?_
    refine nx_then ?_
    refine ws_cond rfl (fun hc => ?_) (fun hc => ?_)
    · skip
      simp at hc
    · skip
      refine ws_skip ?_
      refine nx_block ?_
      refine nx_then ?_
      refine ws_region ?_
      refine wl_x (ox_move rfl rfl) rfl rfl rfl ?_
      refine wl_x (ox_add rfl rfl rfl (by omega)) rfl rfl rfl ?_
      refine wl_x (ox_assign rfl rfl) rfl rfl rfl ?_
      refine wl_nil ?_
      refine nx_round (3 - (i + 1)) _ (by omega) ⟨i + 1, rfl, rfl, Hp.le_trans l3 (Hp.le_trans l4 l5), rfl, by omega⟩ (by repeat (first | exact trivial | refine ⟨rfl, ?_⟩))
  · skip
    refine ws_exit ?_
    refine nx_then_exit ?_
    refine nx_then_exit ?_
    refine nx_block_exit ?_
    refine nx_then ?_
    refine ws_seq ?_
    refine ws_region ?_
    refine wl_x (ox_move rfl rfl) rfl rfl rfl ?_
    refine wl_x (ox_assign rfl rfl) rfl rfl rfl ?_
    refine wl_nil ?_
    refine nx_then ?_
    refine ws_ret ?_
    exact nx_ret1 rfl rfl (rfl)
end Go.Proofs.Ythdkhnjnhhofgaa
