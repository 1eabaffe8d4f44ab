/- The distance as a function; the law's far; counts. -/
import Derived.Test.YthdkhnjnhhofgaaWB
import Derived.Test.YthdkhnjnhhofgaaEB
set_option linter.unusedSimpArgs false
set_option linter.unusedVariables false
set_option maxRecDepth 100000
namespace Go.Proofs.Ythdkhnjnhhofgaa
open Go.Eng Go.RowKit Go.Kuhn

theorem IsDist.unique {p q : List Br} {L d e : Int} (h : IsDist p q L d) (h' : IsDist p q L e) : d = e := by
  obtain ⟨a1, a2, a3, a4⟩ := h
  obtain ⟨b1, b2, b3, b4⟩ := h'
  have := a4 e b1 b2 b3
  have := b4 d a1 a2 a3
  omega
theorem min_mem : ∀ l : List Int, l ≠ [] → ∃ M ∈ l, ∀ c ∈ l, M ≤ c
  | [], h => absurd rfl h
  | [a], _ => ⟨a, by simp, by simp⟩
  | a :: b :: l, _ => by
    obtain ⟨M, h1, h2⟩ := min_mem (b :: l) (by simp)
    rcases Int.le_total M a with h | h
    · exact ⟨M, by simp [h1], fun c hc => by
        rcases List.mem_cons.1 hc with rfl | hc
        · exact h
        · exact h2 c hc⟩
    · exact ⟨a, by simp, fun c hc => by
        rcases List.mem_cons.1 hc with rfl | hc
        · exact Int.le_refl _
        · have := h2 c hc; omega⟩
theorem exists_isDist (p q : List Br) (L : Int) : ∃ d, IsDist p q L d := by
  classical
  obtain ⟨cl1, cl2⟩ := costs_len p q L
  have hLC : L ∈ costsOf p q L := by unfold costsOf; simp
  obtain ⟨M, hMC, hM⟩ : ∃ M ∈ costsOf p q L, ∀ c ∈ costsOf p q L, c ≤ M := max_mem _ (List.ne_nil_of_mem hLC)
  have hlast : Pos (fitsD p q M) (p.length + q.length) := pos_max p q _ (fun b hb => hM _ (cl1 b hb)) (fun b hb => hM _ (cl2 b hb))
  obtain ⟨d, h1, h2⟩ := min_mem ((costsOf p q L).filter fun c => decide (L ≤ c ∧ Pos (fitsD p q c) (p.length + q.length))) (List.ne_nil_of_mem (List.mem_filter.2 ⟨hMC, by simpa using ⟨hM _ hLC, hlast⟩⟩))
  obtain ⟨h3, h4⟩ := List.mem_filter.1 h1
  have h4 := of_decide_eq_true h4
  exact ⟨d, h3, h4.1, h4.2, fun c hc h5 h6 => h2 c (List.mem_filter.2 ⟨hc, by simpa using ⟨h5, h6⟩⟩)⟩
/-- The least of the costs that serve. -/
noncomputable def dd (p q : List Br) (L : Int) : Int := (exists_isDist p q L).choose
theorem dd_is (p q : List Br) (L : Int) : IsDist p q L (dd p q L) := (exists_isDist p q L).choose_spec
/-- Twice the distance of two diagrams in a dimension, and whether there is one. -/
noncomputable def dist2 (dim : Int) (a b : List Br) : Int × Bool :=
  if (birthsOf dim a).length = (birthsOf dim b).length then (dd (a.filter (Br.finIn dim)) (b.filter (Br.finIn dim)) (leastOf ((birthsOf dim a).zip (birthsOf dim b))), true) else (0, false)
theorem dist2_of {dim : Int} {la lb : List Br} {d : Int} {e : Bool} (h1 : (birthsOf dim la).length ≠ (birthsOf dim lb).length → d = 0 ∧ e = false) (h2 : (birthsOf dim la).length = (birthsOf dim lb).length → e = true ∧ IsDist (la.filter (Br.finIn dim)) (lb.filter (Br.finIn dim)) (leastOf ((birthsOf dim la).zip (birthsOf dim lb))) d) : dist2 dim la lb = (d, e) := by
  unfold dist2
  split
  · rename_i h
    obtain ⟨rfl, h3⟩ := h2 h
    rw [h3.unique (dd_is _ _ _)]
  · rename_i h
    obtain ⟨rfl, rfl⟩ := h1 h
    rfl
theorem dist2_bd {la lb : List Br} (dim : Int) (hA : ∀ b ∈ la, BOk b) (hB : ∀ b ∈ lb, BOk b) : 0 ≤ (dist2 dim la lb).1 ∧ (dist2 dim la lb).1 ≤ 8000000000000 := by
  unfold dist2
  split
  · have hX := birthsOf_bd dim la hA
    have hY := birthsOf_bd dim lb hB
    have hL := leastOf_bd ((birthsOf dim la).zip (birthsOf dim lb)) fun p hp => by
      have h1 := hX _ (List.of_mem_zip hp).1
      have h2 := hY _ (List.of_mem_zip hp).2
      unfold iabs; omega
    obtain ⟨h1, h2, _, _⟩ := dd_is (la.filter (Br.finIn dim)) (lb.filter (Br.finIn dim)) (leastOf ((birthsOf dim la).zip (birthsOf dim lb)))
    refine ⟨by show 0 ≤ dd _ _ _; omega, ?_⟩
    show dd _ _ _ ≤ _
    generalize dd (la.filter (Br.finIn dim)) (lb.filter (Br.finIn dim)) (leastOf ((birthsOf dim la).zip (birthsOf dim lb))) = d at *
    have hp : ∀ b ∈ la.filter (Br.finIn dim), BOk b := fun b hb => hA b (List.mem_filter.1 hb).1
    have hq : ∀ b ∈ lb.filter (Br.finIn dim), BOk b := fun b hb => hB b (List.mem_filter.1 hb).1
    unfold costsOf at h1
    rcases List.mem_append.1 h1 with h1 | h1
    · rcases List.mem_cons.1 h1 with rfl | h1
      · omega
      · obtain ⟨x, hx, h1⟩ := List.mem_flatMap.1 h1
        have b1 := hp x hx
        rcases List.mem_cons.1 h1 with rfl | h1
        · have := len_bd b1; omega
        · obtain ⟨y, hy, rfl⟩ := List.mem_map.1 h1
          obtain ⟨a1, a2, a3, a4⟩ := b1
          obtain ⟨c1, c2, c3, c4⟩ := hq y hy
          unfold Br.apart iabs; omega
    · obtain ⟨y, hy, rfl⟩ := List.mem_map.1 h1
      have := len_bd (hq y hy); omega
  · simp
section
variable (la lb : List Br) (va vb : Value) (dim : Int) (h : Hp) (hRa : RdL cBr 6 h [] va la) (hRb : RdL cBr 6 h [] vb lb) (hla : la.length ≤ 10000) (hlb : lb.length ≤ 10000) (hA : ∀ b ∈ la, BOk b) (hB : ∀ b ∈ lb, BOk b) (ms : List Hp)
include hRa hRb hla hlb hA hB
theorem distance_v : FnV Try.prog 12 #[va, vb, .int .i64 dim] h ms (.tuple #[.int .i64 (dist2 dim la lb).1, .bool (dist2 dim la lb).2]) := by
  refine fun w hw => (?_ : FnV _ _ _ h [] _) w (hw.weaken (Hp.le_refl _) (List.nil_sublist _))
  refine FnT.toV (FnT.mono (distance_ok la lb va vb dim h hRa hRb hla hlb hA hB) ?_)
  rintro r h' ms' ⟨d, e, rfl, h1, h2⟩
  rw [dist2_of h1 h2]
theorem rdistance_v : FnV Try.prog 13 #[va, vb, .int .i64 dim] h ms (.tuple #[.int .i64 (dist2 dim la lb).1, .bool (dist2 dim la lb).2]) := by
  refine fun w hw => (?_ : FnV _ _ _ h [] _) w (hw.weaken (Hp.le_refl _) (List.nil_sublist _))
  refine FnT.toV (FnT.mono (rdistance_ok la lb va vb dim h hRa hRb hla hlb hA hB) ?_)
  rintro r h' ms' ⟨d, e, rfl, h1, h2⟩
  rw [dist2_of h1 h2]
theorem far_true (want : Int) (hd : dist2 1 la lb = (want, true)) : FnV Try.prog 16 #[va, vb, .int .i64 want] h ms (.bool true) := by
  refine fun w hw => (?_ : FnV _ _ _ h [] _) w (hw.weaken (Hp.le_refl _) (List.nil_sublist _))
  refine FnT.toV ?_
  refine fn_enter Try.func16 Try.ntmps16 rfl rfl (fun w0 hw0 => ?_)
  simp only [argS]
  refine ws_seq ?_
  refine ws_region ?_
  refine wl_x (ox_assign rfl rfl) rfl rfl rfl ?_
  refine wl_nil ?_
  refine nx_then ?_
  refine ws_seq ?_
  refine ws_region ?_
  refine wl_x (ox_move rfl rfl) rfl rfl rfl ?_
  refine wl_x (ox_move rfl rfl) rfl rfl rfl ?_
  refine wl_x (ox_call rfl Try.call12 rfl (distance_v la lb va vb 1 h hRa hRb hla hlb hA hB _)) rfl rfl rfl ?_
  rw [hd]
  refine wl_x (ox_move rfl rfl) rfl rfl rfl ?_
  refine wl_x (ox_extract rfl rfl rfl) rfl rfl rfl ?_
  refine wl_x (ox_extract rfl rfl rfl) rfl rfl rfl ?_
  refine wl_x (ox_assign rfl rfl) rfl rfl rfl ?_
  refine wl_x (ox_assign rfl rfl) rfl rfl rfl ?_
  refine wl_nil ?_
  refine nx_then ?_
  refine ws_seq ?_
  refine ws_region ?_
  refine wl_x (ox_move rfl rfl) rfl rfl rfl ?_
  refine wl_x (ox_move rfl rfl) rfl rfl rfl ?_
  refine wl_splitb (t := 16) rfl (fun h1 => ?_) (fun h1 => ?_)
  · skip
    refine wl_gx (ox_move rfl rfl) rfl rfl rfl rfl rfl rfl ?_
    refine wl_gx (ox_move rfl rfl) rfl rfl rfl rfl rfl rfl ?_
    refine wl_gx (ox_eqi rfl rfl rfl) rfl rfl rfl rfl rfl rfl ?_
    refine wl_x (ox_pick_t rfl rfl rfl) rfl rfl rfl ?_
    refine wl_x (ox_assign rfl rfl) rfl rfl rfl ?_
    refine wl_nil ?_
    refine nx_then ?_
    refine ws_ret ?_
    exact nx_ret1 rfl rfl (by simp)
  · skip
    cases h1
end

/-- Does a bar count at a value? -/
def Br.at (dim t : Int) (b : Br) : Bool := decide (b.dim = dim) && decide (b.birth ≤ t) && (b.opn || decide (t < b.death))
theorem at_ok (b : Br) (g1 g2 : Nat) (dim t : Int) (h : Hp) (hD : ∀ ms, Cell h ms ⟨g1, 0, none⟩ (.int .i64 dim)) (hT : ∀ ms, Cell h ms ⟨g2, 0, none⟩ (.int .i64 t)) (ms : List Hp) : FnV Try.prog 45 ([] ++ [Value.agg (cBr b).toArray] ++ [Value.pointer (some ⟨g1, 0, none⟩), Value.pointer (some ⟨g2, 0, none⟩)]).toArray h ms (.bool (b.at dim t)) := by
  refine fun w hw => (?_ : FnV _ _ _ h [] _) w (hw.weaken (Hp.le_refl _) (List.nil_sublist _))
  refine FnT.toV ?_
  show FnT _ _ #[.agg (cBr b).toArray, .pointer (some ⟨g1, 0, none⟩), .pointer (some ⟨g2, 0, none⟩)] _ _ _
  refine fn_enter Try.func45 Try.ntmps45 rfl rfl (fun w0 hw0 => ?_)
  simp only [argS]
  refine ws_seq ?_
  refine ws_region ?_
  refine wl_box [_, _, _, _, _, _] rfl rfl (by first | rfl | exact Rd.cells ‹_› | exact (RdL.rd ‹_›).cells) rfl rfl rfl (fun g3 => ?_)
  refine wl_x (ox_assign rfl rfl) rfl rfl rfl ?_
  refine wl_nil ?_
  refine nx_then ?_
  refine ws_seq ?_
  refine ws_region ?_
  refine wl_x (ox_fieldF fd40_0 rfl rfl) rfl rfl rfl ?_
  refine wl_x (ox_load rfl Try.underlying3 rfl rfl (by first | exact Cell.blk 0 rfl rfl | exact Cell.blk 1 rfl rfl | exact Cell.blk 2 rfl rfl | exact Cell.blk 3 rfl rfl | exact Cell.blk 4 rfl rfl | exact hD _ | exact hT _)) rfl rfl rfl ?_
  refine wl_x (ox_load rfl Try.underlying3 rfl rfl (by first | exact hD _ | exact hT _)) rfl rfl rfl ?_
  refine wl_x (ox_eqi rfl rfl rfl) rfl rfl rfl ?_
  refine wl_x (ox_move rfl rfl) rfl rfl rfl ?_
  refine wl_split (t := 9) rfl (fun h1 => ?_) (fun h1 => ?_)
  · skip
    refine wl_gx (ox_fieldF fd40_1 rfl rfl) rfl rfl rfl rfl rfl rfl ?_
    refine wl_gx (ox_load rfl Try.underlying3 rfl rfl (by first | exact Cell.blk 0 rfl rfl | exact Cell.blk 1 rfl rfl | exact Cell.blk 2 rfl rfl | exact Cell.blk 3 rfl rfl | exact Cell.blk 4 rfl rfl | exact hD _ | exact hT _)) rfl rfl rfl rfl rfl rfl ?_
    refine wl_gx (ox_load rfl Try.underlying3 rfl rfl (by first | exact hD _ | exact hT _)) rfl rfl rfl rfl rfl rfl ?_
    refine wl_gx (ox_leq rfl rfl rfl) rfl rfl rfl rfl rfl rfl ?_
    refine wl_x (ox_pick_t rfl rfl rfl) rfl rfl rfl ?_
    refine wl_x (ox_move rfl rfl) rfl rfl rfl ?_
    refine wl_split (t := 15) rfl (fun h2 => ?_) (fun h2 => ?_)
    · skip
      refine wl_gx (ox_fieldF fd40_3 rfl rfl) rfl rfl rfl rfl rfl rfl ?_
      refine wl_gx (ox_load rfl Try.underlying4 rfl rfl (by first | exact Cell.blk 0 rfl rfl | exact Cell.blk 1 rfl rfl | exact Cell.blk 2 rfl rfl | exact Cell.blk 3 rfl rfl | exact Cell.blk 4 rfl rfl | exact hD _ | exact hT _)) rfl rfl rfl rfl rfl rfl ?_
      refine wl_gx (ox_move rfl rfl) rfl rfl rfl rfl rfl rfl ?_
      refine wl_splitb (t := 18) rfl (fun h3 => ?_) (fun h3 => ?_)
      · skip
        refine wl_skip rfl rfl rfl rfl rfl rfl rfl ?_
        refine wl_skip rfl rfl rfl rfl rfl rfl rfl ?_
        refine wl_skip rfl rfl rfl rfl rfl rfl rfl ?_
        refine wl_skip rfl rfl rfl rfl rfl rfl rfl ?_
        refine wl_gx (ox_pick_t rfl rfl rfl) rfl rfl rfl rfl rfl rfl ?_
        refine wl_x (ox_pick_t rfl rfl rfl) rfl rfl rfl ?_
        refine wl_x (ox_assign rfl rfl) rfl rfl rfl ?_
        refine wl_nil ?_
        refine nx_then ?_
        refine ws_ret ?_
        exact nx_ret1 rfl rfl (by simp [Br.at, h1, h2, h3])
      · skip
        refine wl_gx (ox_fieldF fd40_2 rfl rfl) rfl rfl rfl rfl rfl rfl ?_
        refine wl_gx (ox_load rfl Try.underlying3 rfl rfl (by first | exact Cell.blk 0 rfl rfl | exact Cell.blk 1 rfl rfl | exact Cell.blk 2 rfl rfl | exact Cell.blk 3 rfl rfl | exact Cell.blk 4 rfl rfl | exact hD _ | exact hT _)) rfl rfl rfl rfl rfl rfl ?_
        refine wl_gx (ox_load rfl Try.underlying3 rfl rfl (by first | exact hD _ | exact hT _)) rfl rfl rfl rfl rfl rfl ?_
        refine wl_gx (ox_gtr rfl rfl rfl) rfl rfl rfl rfl rfl rfl ?_
        refine wl_gx (ox_pick_f rfl rfl rfl) rfl rfl rfl rfl rfl rfl ?_
        refine wl_x (ox_pick_t rfl rfl rfl) rfl rfl rfl ?_
        refine wl_x (ox_assign rfl rfl) rfl rfl rfl ?_
        refine wl_nil ?_
        refine nx_then ?_
        refine ws_ret ?_
        exact nx_ret1 rfl rfl (by simp [Br.at, h1, h2, h3])
    · skip
      refine wl_skip rfl rfl rfl rfl rfl rfl rfl ?_
      refine wl_skip rfl rfl rfl rfl rfl rfl rfl ?_
      refine wl_skip rfl rfl rfl rfl rfl rfl rfl ?_
      refine wl_skipu rfl rfl rfl rfl rfl rfl ?_
      refine wl_skipu rfl rfl rfl rfl rfl rfl ?_
      refine wl_skipu rfl rfl rfl rfl rfl rfl ?_
      refine wl_skipu rfl rfl rfl rfl rfl rfl ?_
      refine wl_skip rfl rfl rfl rfl rfl rfl rfl ?_
      refine wl_x (ox_pick_f rfl rfl rfl) rfl rfl rfl ?_
      refine wl_x (ox_assign rfl rfl) rfl rfl rfl ?_
      refine wl_nil ?_
      refine nx_then ?_
      refine ws_ret ?_
      exact nx_ret1 rfl rfl (by simp [Br.at, h1, h2])
  · skip
    refine wl_skip rfl rfl rfl rfl rfl rfl rfl ?_
    refine wl_skip rfl rfl rfl rfl rfl rfl rfl ?_
    refine wl_skip rfl rfl rfl rfl rfl rfl rfl ?_
    refine wl_skip rfl rfl rfl rfl rfl rfl rfl ?_
    refine wl_x (ox_pick_f rfl rfl rfl) rfl rfl rfl ?_
    refine wl_x (ox_move rfl rfl) rfl rfl rfl ?_
    refine wl_skip rfl rfl rfl rfl rfl rfl rfl ?_
    refine wl_skip rfl rfl rfl rfl rfl rfl rfl ?_
    refine wl_skip rfl rfl rfl rfl rfl rfl rfl ?_
    refine wl_skipu rfl rfl rfl rfl rfl rfl ?_
    refine wl_skipu rfl rfl rfl rfl rfl rfl ?_
    refine wl_skipu rfl rfl rfl rfl rfl rfl ?_
    refine wl_skipu rfl rfl rfl rfl rfl rfl ?_
    refine wl_skip rfl rfl rfl rfl rfl rfl rfl ?_
    refine wl_x (ox_pick_f rfl rfl rfl) rfl rfl rfl ?_
    refine wl_x (ox_assign rfl rfl) rfl rfl rfl ?_
    refine wl_nil ?_
    refine nx_then ?_
    refine ws_ret ?_
    exact nx_ret1 rfl rfl (by simp [Br.at, h1])
theorem count_ok (l : List Br) (vl : Value) (dim t : Int) (h : Hp) (hR : RdL cBr 6 h [] vl l) (hl : l.length ≤ 1000000) (ms : List Hp) :
    FnV Try.prog 20 #[vl, .int .i64 dim, .int .i64 t] h ms (.int .i64 (l.filter (Br.at dim t)).length) := by
  refine fun w hw => (?_ : FnV _ _ _ h [] _) w (hw.weaken (Hp.le_refl _) (List.nil_sublist _))
  refine FnT.toV ?_
  refine fn_enter Try.func20 Try.ntmps20 rfl rfl (fun w0 hw0 => ?_)
  simp only [argS]
  refine ws_seq ?_
  refine ws_region ?_
  refine wl_box [_] rfl rfl (by first | rfl | exact Rd.cells ‹_› | exact (RdL.rd ‹_›).cells) rfl rfl rfl (fun g4 => ?_)
  refine wl_box [_] rfl rfl (by first | rfl | exact Rd.cells ‹_› | exact (RdL.rd ‹_›).cells) rfl rfl rfl (fun g5 => ?_)
  refine wl_freezeI 0 rfl (fun h1 l1 s1 => ?_)
  refine wl_freezeI 0 rfl (fun h2 l2 s2 => ?_)
  have c5 : Cell h2 [] ⟨g5, 0, none⟩ (.int .i64 t) := (s1.at0 rfl).le l2
  have c4 : Cell h2 [] ⟨g4, 0, none⟩ (.int .i64 dim) := s2.at0 rfl
  have hR := hR.up (Hp.le_trans l1 l2)
  try simp only [List.eraseIdx_cons_zero, List.eraseIdx_cons_succ]
  refine wl_x (ox_assign rfl rfl) rfl rfl rfl ?_
  refine wl_nil ?_
  refine nx_then ?_
  refine ws_seq ?_
  refine ws_region ?_
  refine wl_x (ox_move rfl rfl) rfl rfl rfl ?_
  refine wl_x (ox_makeFunc rfl rfl rfl) rfl rfl rfl ?_
  refine wl_call rfl Try.call26 rfl (filtered_ok l vl 45 [Value.pointer (some ⟨g4, 0, none⟩), Value.pointer (some ⟨g5, 0, none⟩)] (Br.at dim t) h2 hR (by omega) Try.call45 (fun b _ ms => at_ok b g4 g5 dim t h2 (fun _ => c4.any) (fun _ => c5.any) ms)) rfl rfl rfl (fun vp h3 _ l3 hL => ?_)
  obtain ⟨rfl, hRp⟩ := hL
  first | refine wl_x (ox_len (ty := 25) rfl Try.underlying25 rfl) rfl rfl rfl ?_ | refine wl_x (ox_lenR hRp.rd.any rfl Try.underlying25 rfl) rfl rfl rfl ?_
  refine wl_x (ox_assign rfl rfl) rfl rfl rfl ?_
  refine wl_nil ?_
  refine nx_then ?_
  refine ws_ret ?_
  exact nx_ret1 rfl rfl (rfl)
theorem take_filter_len {α : Type} (l : List α) (p : α → Bool) (k : Nat) (hk : k < l.length) : ((l.take (k + 1)).filter p).length = ((l.take k).filter p).length + if p l[k] then 1 else 0 := by
  rw [List.take_succ_eq_append_getElem hk, List.filter_append, List.length_append]
  congr 1
  cases h : p l[k] <;> simp [h]
theorem rcount_ok (l : List Br) (vl : Value) (dim t : Int) (h : Hp) (hR : RdL cBr 6 h [] vl l) (hl : l.length ≤ 1000000) (ms : List Hp) :
    FnV Try.prog 21 #[vl, .int .i64 dim, .int .i64 t] h ms (.int .i64 (l.filter (Br.at dim t)).length) := by
  refine fun w hw => (?_ : FnV _ _ _ h [] _) w (hw.weaken (Hp.le_refl _) (List.nil_sublist _))
  refine FnT.toV ?_
  refine fn_enter Try.func21 Try.ntmps21 rfl rfl (fun w0 hw0 => ?_)
  simp only [argS]
  refine ws_seq ?_
  refine ws_region ?_
  refine wl_x (ox_assign rfl rfl) rfl rfl rfl ?_
  refine wl_nil ?_
  refine nx_then ?_
  refine ws_seq ?_
  refine ws_region ?_
  refine wl_x (ox_assign rfl rfl) rfl rfl rfl ?_
  refine wl_nil ?_
  refine nx_then ?_
  refine ws_seq ?_
  refine ws_seq ?_
  refine ws_region ?_
  refine wl_x (ox_assign rfl rfl) rfl rfl rfl ?_
  refine wl_nil ?_
  refine nx_then ?_
  refine ws_block ?_
  refine ws_loop (fun n s h' ms' => ∃ (k : Nat) (c : Int), n = l.length - k ∧ s = [(0, vl), (1, .int .i64 dim), (2, .int .i64 t), (7, .int .i64 c), (8, .int .i64 k)] ∧ h' = h ∧ ms' = [] ∧ k ≤ l.length ∧ c = ((l.take k).filter (Br.at dim t)).length)
    (l.length - 0) _ ⟨0, 0, rfl, rfl, rfl, rfl, by omega, rfl⟩ (by repeat (first | exact trivial | refine ⟨rfl, ?_⟩)) ?_
  rintro n s h' ms' ⟨k, c, rfl, rfl, rfl, rfl, hk, hc⟩
  refine ws_seq ?_
  refine ws_seq ?_
  refine ws_region ?_
  refine wl_x (ox_move rfl rfl) rfl rfl rfl ?_
  refine wl_x (ox_move rfl rfl) rfl rfl rfl ?_
  first | refine wl_x (ox_len (ty := 25) rfl Try.underlying25 rfl) rfl rfl rfl ?_ | refine wl_x (ox_lenR hR.rd.any rfl Try.underlying25 rfl) rfl rfl rfl ?_
  refine wl_x (ox_lss rfl rfl rfl) rfl rfl rfl ?_
  refine wl_nil ?_
  refine nx_then ?_
  refine ws_if rfl (fun hlt => ?_) (fun hlt => ?_)
  · skip
    have hkl : k < l.length := by omega
    have hts := take_filter_len l (Br.at dim t) k hkl
    have hle : ((l.take k).filter (Br.at dim t)).length ≤ (l.take k).length := List.length_filter_le _ _
    have hle2 : (l.take k).length ≤ k := List.length_take_le _ _
    refine ws_skip ?_
    refine nx_then ?_
    refine ws_seq ?_
    refine ws_block ?_
    refine ws_seq ?_
    refine ws_region ?_
    refine wl_x (ox_move rfl rfl) rfl rfl rfl ?_
    refine wl_x (ox_move rfl rfl) rfl rfl rfl ?_
    first | refine wl_x (ox_index _ rfl Try.underlying25 el40 rfl rfl rfl (by omega)) rfl rfl rfl ?_ | refine wl_x (ox_indexR _ hR.rd.any rfl Try.underlying25 el40 rfl rfl rfl (by omega)) rfl rfl rfl ?_
    refine wl_x (ox_fieldF fd40_0 rfl rfl) rfl rfl rfl ?_
    refine wl_x (ox_load rfl Try.underlying3 rfl rfl (by first | exact hR.cell hkl rfl)) rfl rfl rfl ?_
    refine wl_x (ox_move rfl rfl) rfl rfl rfl ?_
    refine wl_x (ox_eqi rfl rfl rfl) rfl rfl rfl ?_
    refine wl_x (ox_move rfl rfl) rfl rfl rfl ?_
    refine wl_split (t := 22) rfl (fun h1 => ?_) (fun h1 => ?_)
    · skip
      refine wl_gx (ox_move rfl rfl) rfl rfl rfl rfl rfl rfl ?_
      refine wl_gx (ox_move rfl rfl) rfl rfl rfl rfl rfl rfl ?_
      first | refine wl_gx (ox_index _ rfl Try.underlying25 el40 rfl rfl rfl (by omega)) rfl rfl rfl rfl rfl rfl ?_ | refine wl_gx (ox_indexR _ hR.rd.any rfl Try.underlying25 el40 rfl rfl rfl (by omega)) rfl rfl rfl rfl rfl rfl ?_
      refine wl_gx (ox_fieldF fd40_1 rfl rfl) rfl rfl rfl rfl rfl rfl ?_
      refine wl_gx (ox_load rfl Try.underlying3 rfl rfl (by first | exact hR.cell hkl rfl)) rfl rfl rfl rfl rfl rfl ?_
      refine wl_gx (ox_move rfl rfl) rfl rfl rfl rfl rfl rfl ?_
      refine wl_gx (ox_leq rfl rfl rfl) rfl rfl rfl rfl rfl rfl ?_
      refine wl_x (ox_pick_t rfl rfl rfl) rfl rfl rfl ?_
      refine wl_x (ox_move rfl rfl) rfl rfl rfl ?_
      refine wl_split (t := 31) rfl (fun h2 => ?_) (fun h2 => ?_)
      · skip
        refine wl_gx (ox_move rfl rfl) rfl rfl rfl rfl rfl rfl ?_
        refine wl_gx (ox_move rfl rfl) rfl rfl rfl rfl rfl rfl ?_
        first | refine wl_gx (ox_index _ rfl Try.underlying25 el40 rfl rfl rfl (by omega)) rfl rfl rfl rfl rfl rfl ?_ | refine wl_gx (ox_indexR _ hR.rd.any rfl Try.underlying25 el40 rfl rfl rfl (by omega)) rfl rfl rfl rfl rfl rfl ?_
        refine wl_gx (ox_fieldF fd40_3 rfl rfl) rfl rfl rfl rfl rfl rfl ?_
        refine wl_gx (ox_load rfl Try.underlying4 rfl rfl (by first | exact hR.cell hkl rfl)) rfl rfl rfl rfl rfl rfl ?_
        refine wl_gx (ox_move rfl rfl) rfl rfl rfl rfl rfl rfl ?_
        refine wl_splitb (t := 37) rfl (fun h3 => ?_) (fun h3 => ?_)
        · skip
          refine wl_skip rfl rfl rfl rfl rfl rfl rfl ?_
          refine wl_skip rfl rfl rfl rfl rfl rfl rfl ?_
          refine wl_skip rfl rfl rfl rfl rfl rfl rfl ?_
          refine wl_skip rfl rfl rfl rfl rfl rfl rfl ?_
          refine wl_skip rfl rfl rfl rfl rfl rfl rfl ?_
          refine wl_skip rfl rfl rfl rfl rfl rfl rfl ?_
          refine wl_skip rfl rfl rfl rfl rfl rfl rfl ?_
          refine wl_gx (ox_pick_t rfl rfl rfl) rfl rfl rfl rfl rfl rfl ?_
          refine wl_x (ox_pick_t rfl rfl rfl) rfl rfl rfl ?_
          refine wl_nil ?_
          refine nx_then ?_
          refine ws_cond_t rfl ?_
          refine ws_region ?_
          refine wl_x (ox_move rfl rfl) rfl rfl rfl ?_
          refine wl_x (ox_add rfl rfl rfl (by omega)) rfl rfl rfl ?_
          refine wl_x (ox_assign rfl rfl) rfl rfl rfl ?_
          refine wl_nil ?_
          refine nx_block ?_
          refine nx_then ?_
          refine ws_region ?_
          refine wl_x (ox_move rfl rfl) rfl rfl rfl ?_
          refine wl_x (ox_add rfl rfl rfl (by omega)) rfl rfl rfl ?_
          refine wl_x (ox_assign rfl rfl) rfl rfl rfl ?_
          refine wl_nil ?_
          refine nx_round (l.length - (k + 1)) _ (by omega) ⟨k + 1, c + 1, rfl, rfl, rfl, rfl, by omega, by rw [hts, hc]; simp [Br.at, h1, h2, h3]⟩ (by repeat (first | exact trivial | refine ⟨rfl, ?_⟩))
        · skip
          refine wl_gx (ox_move rfl rfl) rfl rfl rfl rfl rfl rfl ?_
          refine wl_gx (ox_move rfl rfl) rfl rfl rfl rfl rfl rfl ?_
          first | refine wl_gx (ox_index _ rfl Try.underlying25 el40 rfl rfl rfl (by omega)) rfl rfl rfl rfl rfl rfl ?_ | refine wl_gx (ox_indexR _ hR.rd.any rfl Try.underlying25 el40 rfl rfl rfl (by omega)) rfl rfl rfl rfl rfl rfl ?_
          refine wl_gx (ox_fieldF fd40_2 rfl rfl) rfl rfl rfl rfl rfl rfl ?_
          refine wl_gx (ox_load rfl Try.underlying3 rfl rfl (by first | exact hR.cell hkl rfl)) rfl rfl rfl rfl rfl rfl ?_
          refine wl_gx (ox_move rfl rfl) rfl rfl rfl rfl rfl rfl ?_
          refine wl_gx (ox_gtr rfl rfl rfl) rfl rfl rfl rfl rfl rfl ?_
          refine wl_gx (ox_pick_f rfl rfl rfl) rfl rfl rfl rfl rfl rfl ?_
          refine wl_x (ox_pick_t rfl rfl rfl) rfl rfl rfl ?_
          refine wl_nil ?_
          refine nx_then ?_
          refine ws_if rfl (fun h4 => ?_) (fun h4 => ?_)
          · skip
            refine ws_region ?_
            refine wl_x (ox_move rfl rfl) rfl rfl rfl ?_
            refine wl_x (ox_add rfl rfl rfl (by omega)) rfl rfl rfl ?_
            refine wl_x (ox_assign rfl rfl) rfl rfl rfl ?_
            refine wl_nil ?_
            refine nx_block ?_
            refine nx_then ?_
            refine ws_region ?_
            refine wl_x (ox_move rfl rfl) rfl rfl rfl ?_
            refine wl_x (ox_add rfl rfl rfl (by omega)) rfl rfl rfl ?_
            refine wl_x (ox_assign rfl rfl) rfl rfl rfl ?_
            refine wl_nil ?_
            refine nx_round (l.length - (k + 1)) _ (by omega) ⟨k + 1, c + 1, rfl, rfl, rfl, rfl, by omega, by rw [hts, hc]; simp [Br.at, h1, h2, h3, h4]⟩ (by repeat (first | exact trivial | refine ⟨rfl, ?_⟩))
          · skip
            have h4 : ¬ t < l[k].death := by omega
            refine ws_skip ?_
            refine nx_block ?_
            refine nx_then ?_
            refine ws_region ?_
            refine wl_x (ox_move rfl rfl) rfl rfl rfl ?_
            refine wl_x (ox_add rfl rfl rfl (by omega)) rfl rfl rfl ?_
            refine wl_x (ox_assign rfl rfl) rfl rfl rfl ?_
            refine wl_nil ?_
            refine nx_round (l.length - (k + 1)) _ (by omega) ⟨k + 1, c, rfl, rfl, rfl, rfl, by omega, by rw [hts, hc]; simp [Br.at, h1, h2, h3, h4]⟩ (by repeat (first | exact trivial | refine ⟨rfl, ?_⟩))
      · skip
        refine wl_skip rfl rfl rfl rfl rfl rfl rfl ?_
        refine wl_skip rfl rfl rfl rfl rfl rfl rfl ?_
        refine wl_skip rfl rfl rfl rfl rfl rfl rfl ?_
        refine wl_skip rfl rfl rfl rfl rfl rfl rfl ?_
        refine wl_skip rfl rfl rfl rfl rfl rfl rfl ?_
        refine wl_skip rfl rfl rfl rfl rfl rfl rfl ?_
        refine wl_skipu rfl rfl rfl rfl rfl rfl ?_
        refine wl_skipu rfl rfl rfl rfl rfl rfl ?_
        refine wl_skipu rfl rfl rfl rfl rfl rfl ?_
        refine wl_skipu rfl rfl rfl rfl rfl rfl ?_
        refine wl_skipu rfl rfl rfl rfl rfl rfl ?_
        refine wl_skipu rfl rfl rfl rfl rfl rfl ?_
        refine wl_skipu rfl rfl rfl rfl rfl rfl ?_
        refine wl_skip rfl rfl rfl rfl rfl rfl rfl ?_
        refine wl_x (ox_pick_f rfl rfl rfl) rfl rfl rfl ?_
        refine wl_nil ?_
        refine nx_then ?_
        refine ws_cond_f rfl ?_
        refine ws_skip ?_
        refine nx_block ?_
        refine nx_then ?_
        refine ws_region ?_
        refine wl_x (ox_move rfl rfl) rfl rfl rfl ?_
        refine wl_x (ox_add rfl rfl rfl (by omega)) rfl rfl rfl ?_
        refine wl_x (ox_assign rfl rfl) rfl rfl rfl ?_
        refine wl_nil ?_
        refine nx_round (l.length - (k + 1)) _ (by omega) ⟨k + 1, c, rfl, rfl, rfl, rfl, by omega, by rw [hts, hc]; simp [Br.at, h1, h2]⟩ (by repeat (first | exact trivial | refine ⟨rfl, ?_⟩))
    · skip
      refine wl_skip rfl rfl rfl rfl rfl rfl rfl ?_
      refine wl_skip rfl rfl rfl rfl rfl rfl rfl ?_
      refine wl_skip rfl rfl rfl rfl rfl rfl rfl ?_
      refine wl_skip rfl rfl rfl rfl rfl rfl rfl ?_
      refine wl_skip rfl rfl rfl rfl rfl rfl rfl ?_
      refine wl_skip rfl rfl rfl rfl rfl rfl rfl ?_
      refine wl_skip rfl rfl rfl rfl rfl rfl rfl ?_
      refine wl_x (ox_pick_f rfl rfl rfl) rfl rfl rfl ?_
      refine wl_x (ox_move rfl rfl) rfl rfl rfl ?_
      refine wl_skip rfl rfl rfl rfl rfl rfl rfl ?_
      refine wl_skip rfl rfl rfl rfl rfl rfl rfl ?_
      refine wl_skip rfl rfl rfl rfl rfl rfl rfl ?_
      refine wl_skip rfl rfl rfl rfl rfl rfl rfl ?_
      refine wl_skip rfl rfl rfl rfl rfl rfl rfl ?_
      refine wl_skip rfl rfl rfl rfl rfl rfl rfl ?_
      refine wl_skipu rfl rfl rfl rfl rfl rfl ?_
      refine wl_skipu rfl rfl rfl rfl rfl rfl ?_
      refine wl_skipu rfl rfl rfl rfl rfl rfl ?_
      refine wl_skipu rfl rfl rfl rfl rfl rfl ?_
      refine wl_skipu rfl rfl rfl rfl rfl rfl ?_
      refine wl_skipu rfl rfl rfl rfl rfl rfl ?_
      refine wl_skipu rfl rfl rfl rfl rfl rfl ?_
      refine wl_skip rfl rfl rfl rfl rfl rfl rfl ?_
      refine wl_x (ox_pick_f rfl rfl rfl) rfl rfl rfl ?_
      refine wl_nil ?_
      refine nx_then ?_
      refine ws_cond_f rfl ?_
      refine ws_skip ?_
      refine nx_block ?_
      refine nx_then ?_
      refine ws_region ?_
      refine wl_x (ox_move rfl rfl) rfl rfl rfl ?_
      refine wl_x (ox_add rfl rfl rfl (by omega)) rfl rfl rfl ?_
      refine wl_x (ox_assign rfl rfl) rfl rfl rfl ?_
      refine wl_nil ?_
      refine nx_round (l.length - (k + 1)) _ (by omega) ⟨k + 1, c, rfl, rfl, rfl, rfl, by omega, by rw [hts, hc]; simp [Br.at, h1]⟩ (by repeat (first | exact trivial | refine ⟨rfl, ?_⟩))
  · skip
    refine ws_exit ?_
    refine nx_then_exit ?_
    refine nx_then_exit ?_
    refine nx_block_exit ?_
    refine nx_then ?_
    refine ws_seq ?_
    refine ws_region ?_
    refine wl_x (ox_move rfl rfl) rfl rfl rfl ?_
    refine wl_x (ox_assign rfl rfl) rfl rfl rfl ?_
    refine wl_nil ?_
    refine nx_then ?_
    refine ws_ret ?_
    have hkl : l.take k = l := List.take_of_length_le (by omega)
    exact nx_ret1 rfl rfl (by rw [hc, hkl])
end Go.Proofs.Ythdkhnjnhhofgaa

/- Plain: the distances of the chapter's examples. -/
set_option linter.unusedSimpArgs false
set_option linter.unusedVariables false
set_option maxRecDepth 100000
namespace Go.Proofs.Ythdkhnjnhhofgaa
open Go.Eng Go.RowKit Go.Kuhn

theorem pos_row {F : Nat → Nat → Bool} {n : Nat} (h : Pos F n) (x : Nat) (hx : x < n) : ∃ k, k < n ∧ F x k = true := by
  obtain ⟨part, hl, hK, hc⟩ := h
  obtain ⟨k, _, h2, h3⟩ := place_of hK (x := x) (by rw [hc x hx]; decide)
  exact ⟨k, by omega, h3⟩
theorem pos_of {F : Nat → Nat → Bool} (w : List Nat) (h1 : ∀ x, x < w.length → x ∈ w) (h2 : w.Nodup) (h3 : ∀ k (hk : k < w.length), w[k] < w.length ∧ F w[k] k = true) : Pos F w.length := by
  refine ⟨w.map fun x : Nat => (x : Int), by simp, fun k hk => ?_, fun x hx => ?_⟩
  · right
    have hk' : k < w.length := by simpa using hk
    exact ⟨w[k], by simp, (h3 k hk').1, (h3 k hk').2⟩
  · have hn : (w.map fun x : Nat => (x : Int)).Nodup := List.pairwise_map.2 (h2.imp fun h e => h (by omega))
    have h4 := List.nodup_iff_count.1 hn (x : Int)
    have h5 := List.count_pos_iff.2 (List.mem_map.2 ⟨x, h1 x hx, rfl⟩ : (x : Int) ∈ w.map fun x : Nat => (x : Int))
    omega
theorem dist2_eval {dim : Int} {la lb : List Br} {X Y : List Int} {p q : List Br} {L d : Int} (hX : birthsOf dim la = X) (hY : birthsOf dim lb = Y) (hl : X.length = Y.length) (hp : la.filter (Br.finIn dim) = p) (hq : lb.filter (Br.finIn dim) = q) (hL : leastOf (X.zip Y) = L) (hd : IsDist p q L d) : dist2 dim la lb = (d, true) := by
  refine dist2_of (fun h => absurd (by rw [hX, hY]; exact hl) h) fun _ => ⟨rfl, ?_⟩
  rw [hX, hY, hp, hq, hL]; exact hd
theorem isort_of {l l' : List Int} (h : l.Perm l') (hs : l'.Pairwise (· ≤ ·)) : isort l = l' := sorted_perm_eq (isort_sorted l) hs ((isort_perm l).trans h)
theorem births_none {dim : Int} {l : List Br} (h : l.filter (Br.openIn dim) = []) : birthsOf dim l = [] := by
  unfold birthsOf; rw [h]; exact isort_of (List.Perm.refl _) (by simp)

def fb (a b : Int) : Br := ⟨1, a, b, false, 0, 0⟩
def ob (a : Int) : Br := ⟨1, a, 0, true, 0, 0⟩
theorem sane1 : dist2 1 [fb 0 10] [fb 1 8] = (4, true) := by
  refine dist2_eval (X := []) (Y := []) (p := [fb 0 10]) (q := [fb 1 8]) (L := 0) (births_none (by decide)) (births_none (by decide)) rfl (by decide) (by decide) rfl ⟨by decide, by decide, ?_, fun c hc h0 hp => ?_⟩
  · exact pos_of [0, 1] (by simp; omega) (by decide) (by decide)
  · obtain ⟨k, hk, h⟩ := pos_row hp 0 (by decide)
    have hk : k < 2 := hk
    rcases (by omega : k = 0 ∨ k = 1) with rfl | rfl <;> simp [fitsD, fb, Br.apart, Br.len, iabs] at h <;> omega
theorem sane2 : dist2 1 [fb 0 10] [fb 20 24] = (10, true) := by
  refine dist2_eval (X := []) (Y := []) (p := [fb 0 10]) (q := [fb 20 24]) (L := 0) (births_none (by decide)) (births_none (by decide)) rfl (by decide) (by decide) rfl ⟨by decide, by decide, ?_, fun c hc h0 hp => ?_⟩
  · exact pos_of [1, 0] (by simp; omega) (by decide) (by decide)
  · obtain ⟨k, hk, h⟩ := pos_row hp 0 (by decide)
    have hk : k < 2 := hk
    rcases (by omega : k = 0 ∨ k = 1) with rfl | rfl <;> simp [fitsD, fb, Br.apart, Br.len, iabs] at h <;> omega
theorem sane3 : dist2 1 [fb 0 3, fb 0 10] [fb 0 10] = (3, true) := by
  refine dist2_eval (X := []) (Y := []) (p := [fb 0 3, fb 0 10]) (q := [fb 0 10]) (L := 0) (births_none (by decide)) (births_none (by decide)) rfl (by decide) (by decide) rfl ⟨by decide, by decide, ?_, fun c hc h0 hp => ?_⟩
  · exact pos_of [1, 0, 2] (by simp; omega) (by decide) (by decide)
  · obtain ⟨k, hk, h⟩ := pos_row hp 0 (by decide)
    have hk : k < 3 := hk
    rcases (by omega : k = 0 ∨ k = 1 ∨ k = 2) with rfl | rfl | rfl <;> simp [fitsD, fb, Br.apart, Br.len, iabs] at h <;> omega
theorem sane4 : dist2 1 [ob 0, ob 5] [ob 7, ob 1] = (4, true) := by
  refine dist2_eval (X := [0, 5]) (Y := [1, 7]) (p := []) (q := []) (L := 4) (isort_of (by decide) (by decide)) (isort_of (by decide) (by decide)) rfl (by decide) (by decide) (by decide) ⟨by decide, by decide, ?_, fun c hc h0 hp => h0⟩
  exact pos_of [] (by simp) (by decide) (by decide)
theorem sane5 : dist2 1 [ob 0] [fb 0 10] = (0, false) := by
  refine dist2_of (fun _ => ⟨rfl, rfl⟩) fun h => ?_
  rw [births_none (l := [fb 0 10]) (by decide)] at h
  have : birthsOf 1 [ob 0] = [0] := isort_of (by decide) (by decide)
  rw [this] at h; cases h
theorem sane6 : ([fb 0 10, ob 3].filter (Br.at 1 9)).length = 2 := by decide
theorem fb_ok {a b : Int} (h : -1000 ≤ a ∧ a ≤ 1000 ∧ -1000 ≤ b ∧ b ≤ 1000) : BOk (fb a b) := ⟨by show _ ≤ a; omega, by show a ≤ _; omega, by show _ ≤ b; omega, by show b ≤ _; omega⟩
theorem ob_ok {a : Int} (h : -1000 ≤ a ∧ a ≤ 1000) : BOk (ob a) := ⟨by show _ ≤ a; omega, by show a ≤ _; omega, by show (_ : Int) ≤ 0; omega, by show (0 : Int) ≤ _; omega⟩
end Go.Proofs.Ythdkhnjnhhofgaa

/- Walks: the examples of the chapter hold. -/
set_option linter.unusedSimpArgs false
set_option linter.unusedVariables false
set_option maxRecDepth 100000
namespace Go.Proofs.Ythdkhnjnhhofgaa
open Go.Eng Go.RowKit Go.Kuhn

theorem rd_seg {h : Hp} {g : Nat} (l : List Br) (n c : Nat) (hn : n = l.length) (hc : n ≤ c ∧ c ≤ 9223372036854775807) {cs : List Value} (hcs : l.flatMap cBr = cs) (s : Seg h [] ⟨g, 0, none⟩ cs) : RdL cBr 6 h [] (.slice (some ⟨g, 0, none⟩) n c) l := by
  subst hn hcs
  exact ⟨⟨_, c, rfl, hc.1, hc.2, flatMap_len cBr_len l, fun _ => ⟨_, rfl, s⟩⟩, cBr_len⟩
theorem ok1 {b : Br} (h : BOk b) : ∀ x ∈ [b], BOk x := by simpa using h
theorem ok2 {b c : Br} (h : BOk b) (h' : BOk c) : ∀ x ∈ [b, c], BOk x := by simp [h, h']
theorem sanity_ok (h : Hp) (ms : List Hp) : FnV Try.prog 9 #[] h ms (.bool true) := by
  refine FnV.weaken (h := Hp.emp) (FnT.toV ?_) (Hp.emp_le h)
  show FnT _ _ (List.toArray []) _ _ _
  refine fn_enter Try.func9 Try.ntmps9 rfl rfl (fun w0 hw0 => ?_)
  simp only [argS]
  refine ws_seq ?_
  refine ws_region ?_
  refine wl_x (ox_assign rfl rfl) rfl rfl rfl ?_
  refine wl_nil ?_
  refine nx_then ?_
  refine ws_seq ?_
  refine ws_region ?_
  refine wl_x (ox_call rfl Try.call22 rfl (bar_ok _ _ _ _)) rfl rfl rfl ?_
  refine wl_buildSlice1 [_, _, _, _, _, _] rfl Try.underlying25 el40 rfl (by first | rfl | exact Rd.cells ‹_› | exact (RdL.rd ‹_›).cells) rfl rfl (by omega) rfl rfl rfl (fun g6 => ?_)
  refine wl_freezeB (fun h1 l1 s1 => ?_)
  have r1 := rd_seg [fb 0 10] 1 1 rfl (by omega) rfl s1
  refine wl_x (ox_call rfl Try.call22 rfl (bar_ok _ _ _ _)) rfl rfl rfl ?_
  refine wl_buildSlice1 [_, _, _, _, _, _] rfl Try.underlying25 el40 rfl (by first | rfl | exact Rd.cells ‹_› | exact (RdL.rd ‹_›).cells) rfl rfl (by omega) rfl rfl rfl (fun g8 => ?_)
  refine wl_freezeB (fun h2 l2 s2 => ?_)
  have r2 := rd_seg [fb 1 8] 1 1 rfl (by omega) rfl s2
  refine wl_x (ox_call rfl Try.call16 rfl (far_true [fb 0 10] [fb 1 8] _ _ h2 (r1.up l2) r2 (by decide) (by decide) (ok1 (fb_ok (by omega))) (ok1 (fb_ok (by omega))) _ _ sane1)) rfl rfl rfl ?_
  refine wl_x (ox_move rfl rfl) rfl rfl rfl ?_
  refine wl_gx (ox_call rfl Try.call22 rfl (bar_ok _ _ _ _)) rfl rfl rfl rfl rfl rfl ?_
  refine wl_yes rfl rfl rfl rfl ?_
  refine wl_buildSlice1 [_, _, _, _, _, _] rfl Try.underlying25 el40 rfl (by first | rfl | exact Rd.cells ‹_› | exact (RdL.rd ‹_›).cells) rfl rfl (by omega) rfl rfl rfl (fun g12 => ?_)
  refine wl_freezeB (fun h1 l1 s1 => ?_)
  have r1 := rd_seg [fb 0 10] 1 1 rfl (by omega) rfl s1
  refine wl_gx (ox_call rfl Try.call22 rfl (bar_ok _ _ _ _)) rfl rfl rfl rfl rfl rfl ?_
  refine wl_yes rfl rfl rfl rfl ?_
  refine wl_buildSlice1 [_, _, _, _, _, _] rfl Try.underlying25 el40 rfl (by first | rfl | exact Rd.cells ‹_› | exact (RdL.rd ‹_›).cells) rfl rfl (by omega) rfl rfl rfl (fun g14 => ?_)
  refine wl_freezeB (fun h2 l2 s2 => ?_)
  have r2 := rd_seg [fb 20 24] 1 1 rfl (by omega) rfl s2
  refine wl_gx (ox_call rfl Try.call16 rfl (far_true [fb 0 10] [fb 20 24] _ _ h2 (r1.up l2) r2 (by decide) (by decide) (ok1 (fb_ok (by omega))) (ok1 (fb_ok (by omega))) _ _ sane2)) rfl rfl rfl rfl rfl rfl ?_
  refine wl_x (ox_pick_t rfl rfl rfl) rfl rfl rfl ?_
  refine wl_x (ox_assign rfl rfl) rfl rfl rfl ?_
  refine wl_nil ?_
  refine nx_then ?_
  refine ws_seq ?_
  refine ws_region ?_
  refine wl_x (ox_call rfl Try.call22 rfl (bar_ok _ _ _ _)) rfl rfl rfl ?_
  refine wl_x (ox_call rfl Try.call22 rfl (bar_ok _ _ _ _)) rfl rfl rfl ?_
  refine wl_buildSlice [(0, _), (6, _)] [.int .i64 0, .int .i64 0, .int .i64 0, .bool false, .int .i64 0, .int .i64 0, .int .i64 0, .int .i64 0, .int .i64 0, .bool false, .int .i64 0, .int .i64 0] [_, _, _, _, _, _, _, _, _, _, _, _] rfl Try.underlying25 el40 rfl (by omega) (by first | rfl | kernel_rfl | simp [madeCells]) (by repeat (first | exact trivial | refine ⟨⟨by first | rfl | exact Rd.cells ‹_› | exact (RdL.rd ‹_›).cells, rfl, rfl⟩, ?_⟩)) rfl rfl rfl rfl (fun g19 => ?_)
  refine wl_freezeB (fun h1 l1 s1 => ?_)
  have r1 := rd_seg [fb 0 3, fb 0 10] 2 2 rfl (by omega) rfl s1
  refine wl_x (ox_call rfl Try.call22 rfl (bar_ok _ _ _ _)) rfl rfl rfl ?_
  refine wl_buildSlice1 [_, _, _, _, _, _] rfl Try.underlying25 el40 rfl (by first | rfl | exact Rd.cells ‹_› | exact (RdL.rd ‹_›).cells) rfl rfl (by omega) rfl rfl rfl (fun g21 => ?_)
  refine wl_freezeB (fun h2 l2 s2 => ?_)
  have r2 := rd_seg [fb 0 10] 1 1 rfl (by omega) rfl s2
  refine wl_x (ox_call rfl Try.call16 rfl (far_true [fb 0 3, fb 0 10] [fb 0 10] _ _ h2 (r1.up l2) r2 (by decide) (by decide) (ok2 (fb_ok (by omega)) (fb_ok (by omega))) (ok1 (fb_ok (by omega))) _ _ sane3)) rfl rfl rfl ?_
  refine wl_x (ox_move rfl rfl) rfl rfl rfl ?_
  refine wl_gx (ox_call rfl Try.call23 rfl (open_ok _ _ _)) rfl rfl rfl rfl rfl rfl ?_
  refine wl_gx (ox_call rfl Try.call23 rfl (open_ok _ _ _)) rfl rfl rfl rfl rfl rfl ?_
  refine wl_yes rfl rfl rfl rfl ?_
  refine wl_buildSlice [(0, _), (6, _)] [.int .i64 0, .int .i64 0, .int .i64 0, .bool false, .int .i64 0, .int .i64 0, .int .i64 0, .int .i64 0, .int .i64 0, .bool false, .int .i64 0, .int .i64 0] [_, _, _, _, _, _, _, _, _, _, _, _] rfl Try.underlying25 el40 rfl (by omega) (by first | rfl | kernel_rfl | simp [madeCells]) (by repeat (first | exact trivial | refine ⟨⟨by first | rfl | exact Rd.cells ‹_› | exact (RdL.rd ‹_›).cells, rfl, rfl⟩, ?_⟩)) rfl rfl rfl rfl (fun g26 => ?_)
  refine wl_freezeB (fun h1 l1 s1 => ?_)
  have r1 := rd_seg [ob 0, ob 5] 2 2 rfl (by omega) rfl s1
  refine wl_gx (ox_call rfl Try.call23 rfl (open_ok _ _ _)) rfl rfl rfl rfl rfl rfl ?_
  refine wl_gx (ox_call rfl Try.call23 rfl (open_ok _ _ _)) rfl rfl rfl rfl rfl rfl ?_
  refine wl_yes rfl rfl rfl rfl ?_
  refine wl_buildSlice [(0, _), (6, _)] [.int .i64 0, .int .i64 0, .int .i64 0, .bool false, .int .i64 0, .int .i64 0, .int .i64 0, .int .i64 0, .int .i64 0, .bool false, .int .i64 0, .int .i64 0] [_, _, _, _, _, _, _, _, _, _, _, _] rfl Try.underlying25 el40 rfl (by omega) (by first | rfl | kernel_rfl | simp [madeCells]) (by repeat (first | exact trivial | refine ⟨⟨by first | rfl | exact Rd.cells ‹_› | exact (RdL.rd ‹_›).cells, rfl, rfl⟩, ?_⟩)) rfl rfl rfl rfl (fun g29 => ?_)
  refine wl_freezeB (fun h2 l2 s2 => ?_)
  have r2 := rd_seg [ob 7, ob 1] 2 2 rfl (by omega) rfl s2
  refine wl_gx (ox_call rfl Try.call16 rfl (far_true [ob 0, ob 5] [ob 7, ob 1] _ _ h2 (r1.up l2) r2 (by decide) (by decide) (ok2 (ob_ok (by omega)) (ob_ok (by omega))) (ok2 (ob_ok (by omega)) (ob_ok (by omega))) _ _ sane4)) rfl rfl rfl rfl rfl rfl ?_
  refine wl_x (ox_pick_t rfl rfl rfl) rfl rfl rfl ?_
  refine wl_x (ox_assign rfl rfl) rfl rfl rfl ?_
  refine wl_nil ?_
  refine nx_then ?_
  refine ws_seq ?_
  refine ws_region ?_
  refine wl_x (ox_call rfl Try.call23 rfl (open_ok _ _ _)) rfl rfl rfl ?_
  refine wl_buildSlice1 [_, _, _, _, _, _] rfl Try.underlying25 el40 rfl (by first | rfl | exact Rd.cells ‹_› | exact (RdL.rd ‹_›).cells) rfl rfl (by omega) rfl rfl rfl (fun g34 => ?_)
  refine wl_freezeB (fun h1 l1 s1 => ?_)
  have r1 := rd_seg [ob 0] 1 1 rfl (by omega) rfl s1
  refine wl_x (ox_call rfl Try.call22 rfl (bar_ok _ _ _ _)) rfl rfl rfl ?_
  refine wl_buildSlice1 [_, _, _, _, _, _] rfl Try.underlying25 el40 rfl (by first | rfl | exact Rd.cells ‹_› | exact (RdL.rd ‹_›).cells) rfl rfl (by omega) rfl rfl rfl (fun g36 => ?_)
  refine wl_freezeB (fun h2 l2 s2 => ?_)
  have r2 := rd_seg [fb 0 10] 1 1 rfl (by omega) rfl s2
  refine wl_x (ox_call rfl Try.call12 rfl (distance_v [ob 0] [fb 0 10] _ _ 1 h2 (r1.up l2) r2 (by decide) (by decide) (ok1 (ob_ok (by omega))) (ok1 (fb_ok (by omega))) _)) rfl rfl rfl ?_
  rw [sane5]
  refine wl_x (ox_move rfl rfl) rfl rfl rfl ?_
  refine wl_x (ox_extract rfl rfl rfl) rfl rfl rfl ?_
  refine wl_x (ox_extract rfl rfl rfl) rfl rfl rfl ?_
  refine wl_x (ox_assign rfl rfl) rfl rfl rfl ?_
  refine wl_x (ox_assign rfl rfl) rfl rfl rfl ?_
  refine wl_nil ?_
  refine nx_then ?_
  refine ws_seq ?_
  refine ws_region ?_
  refine wl_x (ox_move rfl rfl) rfl rfl rfl ?_
  refine wl_x (ox_move rfl rfl) rfl rfl rfl ?_
  refine wl_gx (ox_move rfl rfl) rfl rfl rfl rfl rfl rfl ?_
  refine wl_x (ox_pick_t rfl rfl rfl) rfl rfl rfl ?_
  refine wl_x (ox_move rfl rfl) rfl rfl rfl ?_
  refine wl_gx (ox_move rfl rfl) rfl rfl rfl rfl rfl rfl ?_
  refine wl_gx (ox_eqi rfl rfl rfl) rfl rfl rfl rfl rfl rfl ?_
  refine wl_x (ox_pick_t rfl rfl rfl) rfl rfl rfl ?_
  refine wl_x (ox_move rfl rfl) rfl rfl rfl ?_
  refine wl_split (t := 48) rfl (fun hs => ?_) (fun hs => absurd (rfl) hs)
  refine wl_gx (ox_move rfl rfl) rfl rfl rfl rfl rfl rfl ?_
  first | refine wl_gx (ox_notd rfl rfl) rfl rfl rfl rfl rfl rfl ?_ | refine wl_gx (ox_not rfl rfl) rfl rfl rfl rfl rfl rfl ?_
  refine wl_x (ox_pick_t rfl rfl rfl) rfl rfl rfl ?_
  refine wl_x (ox_move rfl rfl) rfl rfl rfl ?_
  refine wl_splitb (t := 52) rfl (fun hz => ?_) (fun hz => ?_)
  · skip
    refine wl_gx (ox_call rfl Try.call22 rfl (bar_ok _ _ _ _)) rfl rfl rfl rfl rfl rfl ?_
    refine wl_gx (ox_call rfl Try.call23 rfl (open_ok _ _ _)) rfl rfl rfl rfl rfl rfl ?_
    refine wl_yes rfl rfl rfl rfl ?_
    refine wl_buildSlice [(0, _), (6, _)] [.int .i64 0, .int .i64 0, .int .i64 0, .bool false, .int .i64 0, .int .i64 0, .int .i64 0, .int .i64 0, .int .i64 0, .bool false, .int .i64 0, .int .i64 0] [_, _, _, _, _, _, _, _, _, _, _, _] rfl Try.underlying25 el40 rfl (by omega) (by first | rfl | kernel_rfl | simp [madeCells]) (by repeat (first | exact trivial | refine ⟨⟨by first | rfl | exact Rd.cells ‹_› | exact (RdL.rd ‹_›).cells, rfl, rfl⟩, ?_⟩)) rfl rfl rfl rfl (fun g55 => ?_)
    refine wl_freezeB (fun h1 l1 s1 => ?_)
    have r1 := rd_seg [fb 0 10, ob 3] 2 2 rfl (by omega) rfl s1
    refine wl_gx (ox_call rfl Try.call20 rfl (count_ok [fb 0 10, ob 3] _ 1 9 h1 r1 (by decide) _)) rfl rfl rfl rfl rfl rfl ?_
    refine wl_gx (ox_eqi rfl rfl rfl) rfl rfl rfl rfl rfl rfl ?_
    refine wl_x (ox_pick_t rfl rfl rfl) rfl rfl rfl ?_
    refine wl_x (ox_assign rfl rfl) rfl rfl rfl ?_
    refine wl_nil ?_
    refine nx_then ?_
    refine ws_ret ?_
    exact nx_ret1 rfl rfl (rfl)
  · skip
    cases hz
end Go.Proofs.Ythdkhnjnhhofgaa

/- Walks: the lists that numbers determine. -/
set_option linter.unusedSimpArgs false
set_option linter.unusedVariables false
set_option maxRecDepth 100000
namespace Go.Proofs.Ythdkhnjnhhofgaa
open Go.Eng Go.RowKit Go.Kuhn

abbrev Tri := Int × Int × Int
def cT (t : Tri) : List Value := [.int .i64 t.1, .int .i64 t.2.1, .int .i64 t.2.2]
theorem cT_len : ∀ b, (cT b).length = 3 := fun _ => rfl
def I64 (n : Int) : Prop := -9223372036854775808 ≤ n ∧ n ≤ 9223372036854775807
structure TOk (t : Tri) : Prop where
  a : I64 t.1
  b : I64 t.2.1
  c : I64 t.2.2
def made1 (t : Tri) : Br := ⟨t.2.2 % 7 / 3, t.1.tmod 1000000, t.1.tmod 1000000 + t.2.1.tmod 1000, decide (t.2.2.tmod 5 = 4), t.2.1.tmod 50, t.2.2.tmod 50⟩
def made (l : List Tri) : List Br := (l.take 14).map made1

theorem tmod_bd (a b : Int) (hb : 0 < b) : -b < a.tmod b ∧ a.tmod b < b := ⟨Int.lt_tmod_of_pos a hb, Int.tmod_lt_of_pos a hb⟩
theorem made_ok (l : List Tri) (vl : Value) (h : Hp) (hR : RdL cT 3 h [] vl l) (hA : ∀ t ∈ l, TOk t) :
    FnT Try.prog 10 #[vl] h [] (fun r h' ms' => ms' = [] ∧ RdL cBr 6 h' [] r (made l)) := by
  have hl := hR.len_le
  refine fn_enter Try.func10 Try.ntmps10 rfl rfl (fun w0 hw0 => ?_)
  simp only [argS]
  refine ws_seq ?_
  refine ws_region ?_
  refine wl_x (ox_assign rfl rfl) rfl rfl rfl ?_
  refine wl_nil ?_
  refine nx_then ?_
  refine ws_seq ?_
  refine ws_region ?_
  refine wl_x (ox_assign rfl rfl) rfl rfl rfl ?_
  refine wl_nil ?_
  refine nx_then ?_
  refine ws_seq ?_
  refine ws_seq ?_
  refine ws_region ?_
  refine wl_x (ox_assign rfl rfl) rfl rfl rfl ?_
  refine wl_nil ?_
  refine nx_then ?_
  refine ws_block ?_
  refine ws_emp ?_
  refine ws_loop (fun n s h' ms' => ∃ (k : Nat) (v : Value) (m : Hp), n = l.length - k ∧ s = [(0, vl), (3, v), (4, .int .i64 k)] ∧ h = h' ∧ ms' = [m] ∧ k ≤ l.length ∧ k ≤ 14 ∧ OwnL cBr 6 40 m v ((l.take k).map made1))
    (l.length - 0) _ ⟨0, _, _, rfl, rfl, rfl, rfl, by omega, by omega, OwnL.nil cBr_len⟩ (by repeat (first | exact trivial | refine ⟨rfl, ?_⟩)) ?_
  rintro n s h' ms' ⟨k, v, m, rfl, rfl, rfl, rfl, hk, hk14, hO⟩
  have hO2 := hO.own.1
  refine ws_seq ?_
  refine ws_seq ?_
  refine ws_region ?_
  refine wl_x (ox_move rfl rfl) rfl rfl rfl ?_
  refine wl_x (ox_move rfl rfl) rfl rfl rfl ?_
  first | refine wl_x (ox_len (ty := 22) rfl Try.underlying22 rfl) rfl rfl rfl ?_ | refine wl_x (ox_lenR hR.rd.any rfl Try.underlying22 rfl) rfl rfl rfl ?_
  refine wl_x (ox_lss rfl rfl rfl) rfl rfl rfl ?_
  refine wl_x (ox_move rfl rfl) rfl rfl rfl ?_
  refine wl_split (t := 11) rfl (fun hlt => ?_) (fun hlt => ?_)
  · skip
    have hkl : k < l.length := by omega
    have hts := take_succ_map made1 l k hkl
    obtain ⟨⟨a1, a2⟩, ⟨b1, b2⟩, c1, c2⟩ := hA _ (List.getElem_mem hkl)
    have m1 := tmod_bd l[k].1 1000000 (by omega)
    have m2 := tmod_bd l[k].2.1 1000 (by omega)
    have hml : ((l.take k).map made1).length = k := by simp; omega
    refine wl_gx (ox_move rfl rfl) rfl rfl rfl rfl rfl rfl ?_
    refine wl_gx (ox_lss rfl rfl rfl) rfl rfl rfl rfl rfl rfl ?_
    refine wl_x (ox_pick_t rfl rfl rfl) rfl rfl rfl ?_
    refine wl_nil ?_
    refine nx_then ?_
    refine ws_if rfl (fun h14 => ?_) (fun h14 => ?_)
    · skip
      refine ws_skip ?_
      refine nx_then ?_
      refine ws_seq ?_
      refine ws_block ?_
      refine ws_seq ?_
      refine ws_region ?_
      refine wl_x (ox_move rfl rfl) rfl rfl rfl ?_
      refine wl_x (ox_move rfl rfl) rfl rfl rfl ?_
      first | refine wl_x (ox_index _ rfl Try.underlying22 el50 rfl rfl rfl (by omega)) rfl rfl rfl ?_ | refine wl_x (ox_indexR _ hR.rd.any rfl Try.underlying22 el50 rfl rfl rfl (by omega)) rfl rfl rfl ?_
      refine wl_x (ox_loadG rfl Try.underlying50 rfl el50 rfl rfl (by first | exact hR.any.seg hkl)) rfl rfl rfl ?_
      refine wl_alloc [.int .i64 0, .int .i64 0, .int .i64 0] rfl el50 rfl rfl rfl rfl (fun g5 => ?_)
      first | refine wl_storeAll 0 [_, _, _] rfl el50 rfl rfl rfl (by first | (simp [Value.oneCell']; done) | (simp [(hR.rd.any).one]; done) | simp [Value.oneCell', (hR.rd.any).one]) rfl rfl rfl rfl rfl ?_ | refine wl_storeAll 1 [_, _, _] rfl el50 rfl rfl rfl (by first | (simp [Value.oneCell']; done) | (simp [(hR.rd.any).one]; done) | simp [Value.oneCell', (hR.rd.any).one]) rfl rfl rfl rfl rfl ?_ | refine wl_storeAll 2 [_, _, _] rfl el50 rfl rfl rfl (by first | (simp [Value.oneCell']; done) | (simp [(hR.rd.any).one]; done) | simp [Value.oneCell', (hR.rd.any).one]) rfl rfl rfl rfl rfl ?_ | refine wl_storeAll 3 [_, _, _] rfl el50 rfl rfl rfl (by first | (simp [Value.oneCell']; done) | (simp [(hR.rd.any).one]; done) | simp [Value.oneCell', (hR.rd.any).one]) rfl rfl rfl rfl rfl ?_ | refine wl_storeAll 4 [_, _, _] rfl el50 rfl rfl rfl (by first | (simp [Value.oneCell']; done) | (simp [(hR.rd.any).one]; done) | simp [Value.oneCell', (hR.rd.any).one]) rfl rfl rfl rfl rfl ?_
      refine wl_nil ?_
      refine nx_then ?_
      refine ws_seq ?_
      refine ws_draw 15 fol (by kernel_rfl) rfl ?_
      simp only [List.take_succ_cons, List.take_zero, List.drop_succ_cons, List.drop_zero, List.take_nil, List.drop_nil]
      refine wr_x (ox_indexA 2 rfl Try.underlying50 el3 rfl rfl rfl (by omega)) rfl rfl ?_
      refine wr_x (ox_load rfl Try.underlying3 rfl rfl (by first | exact Cell.blk 0 rfl rfl | exact Cell.blk 1 rfl rfl | exact Cell.blk 2 rfl rfl | exact Cell.blk 3 rfl rfl | exact Cell.blk 4 rfl rfl)) rfl rfl ?_
      refine wr_x (ox_call rfl Try.call24 rfl (mod_ok _ _ (by omega) (by omega) _ _)) rfl rfl ?_
      first | refine wr_x (ox_quoP rfl rfl rfl (by omega) (by omega)) rfl rfl ?_ | refine wr_x (ox_quo rfl rfl rfl (by omega) (by omega)) rfl rfl ?_
      refine wr_x (ox_indexA 0 rfl Try.underlying50 el3 rfl rfl rfl (by omega)) rfl rfl ?_
      refine wr_x (ox_load rfl Try.underlying3 rfl rfl (by first | exact Cell.blk 0 rfl rfl | exact Cell.blk 1 rfl rfl | exact Cell.blk 2 rfl rfl | exact Cell.blk 3 rfl rfl | exact Cell.blk 4 rfl rfl)) rfl rfl ?_
      first | refine wr_x (ox_remP rfl rfl rfl (by omega) (by omega)) rfl rfl ?_ | refine wr_x (ox_rem rfl rfl rfl (by omega)) rfl rfl ?_
      refine wr_x (ox_indexA 1 rfl Try.underlying50 el3 rfl rfl rfl (by omega)) rfl rfl ?_
      refine wr_x (ox_load rfl Try.underlying3 rfl rfl (by first | exact Cell.blk 0 rfl rfl | exact Cell.blk 1 rfl rfl | exact Cell.blk 2 rfl rfl | exact Cell.blk 3 rfl rfl | exact Cell.blk 4 rfl rfl)) rfl rfl ?_
      first | refine wr_x (ox_remP rfl rfl rfl (by omega) (by omega)) rfl rfl ?_ | refine wr_x (ox_rem rfl rfl rfl (by omega)) rfl rfl ?_
      refine wr_x (ox_indexA 2 rfl Try.underlying50 el3 rfl rfl rfl (by omega)) rfl rfl ?_
      refine wr_x (ox_load rfl Try.underlying3 rfl rfl (by first | exact Cell.blk 0 rfl rfl | exact Cell.blk 1 rfl rfl | exact Cell.blk 2 rfl rfl | exact Cell.blk 3 rfl rfl | exact Cell.blk 4 rfl rfl)) rfl rfl ?_
      first | refine wr_x (ox_remP rfl rfl rfl (by omega) (by omega)) rfl rfl ?_ | refine wr_x (ox_rem rfl rfl rfl (by omega)) rfl rfl ?_
      refine wr_x (ox_buildS st40 [.int .i64 0, .int .i64 0, .int .i64 0, .bool false, .int .i64 0, .int .i64 0] [(0, _), (1, _), (4, _), (5, _)] [_, _, _, _, _, _] rfl el40 rfl rfl (by repeat (first | exact trivial | refine ⟨⟨rfl, rfl, rfl⟩, ?_⟩)) rfl) rfl rfl ?_
      refine wr_b (onb_alloc [.int .i64 0, .int .i64 0, .int .i64 0, .bool false, .int .i64 0, .int .i64 0] rfl el40 rfl) rfl rfl ?_
      refine wr_nil1 (fun g6 => ?_)
      first | refine wl_storeAll 0 [_, _, _, _, _, _] rfl el40 rfl rfl rfl (by first | (simp [Value.oneCell']; done) | (simp [(hR.rd.any).one]; done) | simp [Value.oneCell', (hR.rd.any).one]) rfl rfl rfl rfl rfl ?_ | refine wl_storeAll 1 [_, _, _, _, _, _] rfl el40 rfl rfl rfl (by first | (simp [Value.oneCell']; done) | (simp [(hR.rd.any).one]; done) | simp [Value.oneCell', (hR.rd.any).one]) rfl rfl rfl rfl rfl ?_ | refine wl_storeAll 2 [_, _, _, _, _, _] rfl el40 rfl rfl rfl (by first | (simp [Value.oneCell']; done) | (simp [(hR.rd.any).one]; done) | simp [Value.oneCell', (hR.rd.any).one]) rfl rfl rfl rfl rfl ?_ | refine wl_storeAll 3 [_, _, _, _, _, _] rfl el40 rfl rfl rfl (by first | (simp [Value.oneCell']; done) | (simp [(hR.rd.any).one]; done) | simp [Value.oneCell', (hR.rd.any).one]) rfl rfl rfl rfl rfl ?_ | refine wl_storeAll 4 [_, _, _, _, _, _] rfl el40 rfl rfl rfl (by first | (simp [Value.oneCell']; done) | (simp [(hR.rd.any).one]; done) | simp [Value.oneCell', (hR.rd.any).one]) rfl rfl rfl rfl rfl ?_
      refine wl_nil ?_
      refine nx_then ?_
      refine ws_seq ?_
      refine ws_region ?_
      refine wl_x (ox_fieldF fd40_1 rfl rfl) rfl rfl rfl ?_
      refine wl_x (ox_load rfl Try.underlying3 rfl rfl (by first | exact Cell.blk 0 rfl rfl | exact Cell.blk 1 rfl rfl | exact Cell.blk 2 rfl rfl | exact Cell.blk 3 rfl rfl | exact Cell.blk 4 rfl rfl)) rfl rfl rfl ?_
      refine wl_x (ox_indexA 1 rfl Try.underlying50 el3 rfl rfl rfl (by omega)) rfl rfl rfl ?_
      refine wl_x (ox_load rfl Try.underlying3 rfl rfl (by first | exact Cell.blk 0 rfl rfl | exact Cell.blk 1 rfl rfl | exact Cell.blk 2 rfl rfl | exact Cell.blk 3 rfl rfl | exact Cell.blk 4 rfl rfl)) rfl rfl rfl ?_
      first | refine wl_x (ox_remP rfl rfl rfl (by omega) (by omega)) rfl rfl rfl ?_ | refine wl_x (ox_rem rfl rfl rfl (by omega)) rfl rfl rfl ?_
      refine wl_x (ox_add rfl rfl rfl (by omega)) rfl rfl rfl ?_
      refine wl_x (ox_fieldF fd40_2 rfl rfl) rfl rfl rfl ?_
      first | refine wl_storeAt 0 _ rfl el3 rfl rfl (by first | rfl | exact Rd.one ‹_› | exact (RdL.rd ‹_›).one) rfl rfl (by first | decide | (simp; done) | exact of_decide_eq_true rfl | (simp; omega)) rfl rfl ?_ | refine wl_storeAt 1 _ rfl el3 rfl rfl (by first | rfl | exact Rd.one ‹_› | exact (RdL.rd ‹_›).one) rfl rfl (by first | decide | (simp; done) | exact of_decide_eq_true rfl | (simp; omega)) rfl rfl ?_ | refine wl_storeAt 2 _ rfl el3 rfl rfl (by first | rfl | exact Rd.one ‹_› | exact (RdL.rd ‹_›).one) rfl rfl (by first | decide | (simp; done) | exact of_decide_eq_true rfl | (simp; omega)) rfl rfl ?_ | refine wl_storeAt 3 _ rfl el3 rfl rfl (by first | rfl | exact Rd.one ‹_› | exact (RdL.rd ‹_›).one) rfl rfl (by first | decide | (simp; done) | exact of_decide_eq_true rfl | (simp; omega)) rfl rfl ?_ | refine wl_storeAt 4 _ rfl el3 rfl rfl (by first | rfl | exact Rd.one ‹_› | exact (RdL.rd ‹_›).one) rfl rfl (by first | decide | (simp; done) | exact of_decide_eq_true rfl | (simp; omega)) rfl rfl ?_
      refine wl_nil ?_
      refine nx_then ?_
      refine ws_seq ?_
      refine ws_region ?_
      refine wl_x (ox_indexA 2 rfl Try.underlying50 el3 rfl rfl rfl (by omega)) rfl rfl rfl ?_
      refine wl_x (ox_load rfl Try.underlying3 rfl rfl (by first | exact Cell.blk 0 rfl rfl | exact Cell.blk 1 rfl rfl | exact Cell.blk 2 rfl rfl | exact Cell.blk 3 rfl rfl | exact Cell.blk 4 rfl rfl)) rfl rfl rfl ?_
      first | refine wl_x (ox_remP rfl rfl rfl (by omega) (by omega)) rfl rfl rfl ?_ | refine wl_x (ox_rem rfl rfl rfl (by omega)) rfl rfl rfl ?_
      refine wl_x (ox_eqi rfl rfl rfl) rfl rfl rfl ?_
      refine wl_x (ox_fieldF fd40_3 rfl rfl) rfl rfl rfl ?_
      first | refine wl_storeAt 0 _ rfl el4 rfl rfl (by first | rfl | exact Rd.one ‹_› | exact (RdL.rd ‹_›).one) rfl rfl (by first | decide | (simp; done) | exact of_decide_eq_true rfl | (simp; omega)) rfl rfl ?_ | refine wl_storeAt 1 _ rfl el4 rfl rfl (by first | rfl | exact Rd.one ‹_› | exact (RdL.rd ‹_›).one) rfl rfl (by first | decide | (simp; done) | exact of_decide_eq_true rfl | (simp; omega)) rfl rfl ?_ | refine wl_storeAt 2 _ rfl el4 rfl rfl (by first | rfl | exact Rd.one ‹_› | exact (RdL.rd ‹_›).one) rfl rfl (by first | decide | (simp; done) | exact of_decide_eq_true rfl | (simp; omega)) rfl rfl ?_ | refine wl_storeAt 3 _ rfl el4 rfl rfl (by first | rfl | exact Rd.one ‹_› | exact (RdL.rd ‹_›).one) rfl rfl (by first | decide | (simp; done) | exact of_decide_eq_true rfl | (simp; omega)) rfl rfl ?_ | refine wl_storeAt 4 _ rfl el4 rfl rfl (by first | rfl | exact Rd.one ‹_› | exact (RdL.rd ‹_›).one) rfl rfl (by first | decide | (simp; done) | exact of_decide_eq_true rfl | (simp; omega)) rfl rfl ?_
      refine wl_nil ?_
      refine nx_then ?_
      refine ws_region ?_
      refine wl_x (ox_move rfl rfl) rfl rfl rfl ?_
      refine wl_x (ox_loadG rfl Try.underlying40 rfl el40 rfl rfl (by first | exact Seg.blk 0 rfl | exact Seg.blk 1 rfl | exact Seg.blk 2 rfl | exact Seg.blk 3 rfl | exact Seg.blk 4 rfl | exact hR.any.seg hkl)) rfl rfl rfl ?_
      refine wl_buildSlice1 [_, _, _, _, _, _] rfl Try.underlying25 el40 rfl (by first | rfl | exact (hR.rd.any).cells | exact Rd.cells ‹_› | exact (RdL.rd ‹_›).cells) rfl rfl (by omega) rfl rfl rfl (fun g49 => ?_)
      refine wl_appendL 3 hO (RdL.one cBr_len (x := made1 l[k]) (List.Mem.head _) rfl) rfl Try.underlying25 el40 rfl (by omega) rfl rfl rfl cBr_one (by simp; omega) (by simp; omega) rfl rfl rfl (fun v' m' hO' => ?_)
      refine wl_x (ox_assign rfl rfl) rfl rfl rfl ?_
      refine wl_nil ?_
      refine nx_block ?_
      refine nx_then ?_
      refine ws_region ?_
      refine wl_x (ox_move rfl rfl) rfl rfl rfl ?_
      refine wl_x (ox_add rfl rfl rfl (by omega)) rfl rfl rfl ?_
      refine wl_x (ox_assign rfl rfl) rfl rfl rfl ?_
      refine wl_nil ?_
      refine nx_drop (nx_drop (nx_drop ?_))
      refine nx_round (l.length - (k + 1)) _ (by omega) ⟨k + 1, v', m', rfl, rfl, rfl, rfl, by omega, by omega, by rw [hts]; exact hO'⟩ (by repeat (first | exact trivial | refine ⟨rfl, ?_⟩))
    · skip
      obtain rfl : k = 14 := by omega
      refine ws_exit ?_
      refine nx_then_exit ?_
      refine nx_then_exit ?_
      refine nx_block_exit ?_
      refine nx_then ?_
      refine ws_seq ?_
      refine ws_region ?_
      refine wl_x (ox_move rfl rfl) rfl rfl rfl ?_
      refine wl_x (ox_assign rfl rfl) rfl rfl rfl ?_
      refine wl_nil ?_
      refine nx_then ?_
      refine ws_ret ?_
      refine nx_freezeL hO (fun h' hle hR' => ?_)
      exact nx_ret1 rfl rfl (⟨rfl, hR'⟩)
  · skip
    have hkl : k = l.length := by omega
    have hmk : (l.take k).map made1 = made l := by unfold made; rw [List.take_of_length_le (show l.length ≤ k by omega), List.take_of_length_le (show l.length ≤ 14 by omega)]
    rw [hmk] at hO
    refine wl_skip rfl rfl rfl rfl rfl rfl rfl ?_
    refine wl_skip rfl rfl rfl rfl rfl rfl rfl ?_
    refine wl_x (ox_pick_f rfl rfl rfl) rfl rfl rfl ?_
    refine wl_nil ?_
    refine nx_then ?_
    refine ws_cond_f rfl ?_
    refine ws_exit ?_
    refine nx_then_exit ?_
    refine nx_then_exit ?_
    refine nx_block_exit ?_
    refine nx_then ?_
    refine ws_seq ?_
    refine ws_region ?_
    refine wl_x (ox_move rfl rfl) rfl rfl rfl ?_
    refine wl_x (ox_assign rfl rfl) rfl rfl rfl ?_
    refine wl_nil ?_
    refine nx_then ?_
    refine ws_ret ?_
    refine nx_freezeL hO (fun h' hle hR' => ?_)
    exact nx_ret1 rfl rfl (⟨rfl, hR'⟩)

/-- Bars in reach, of the three dimensions. -/
structure Bd (M : Int) (b : Br) : Prop where
  b1 : -M ≤ b.birth
  b2 : b.birth ≤ M
  d1 : -M ≤ b.death
  d2 : b.death ≤ M
  n1 : 0 ≤ b.dim
  n2 : b.dim ≤ 2
theorem Bd.ok {M : Int} {b : Br} (h : Bd M b) (hM : M ≤ 1000000000000) : BOk b := ⟨by have := h.b1; omega, by have := h.b2; omega, by have := h.d1; omega, by have := h.d2; omega⟩
theorem made_bd (l : List Tri) : (made l).length ≤ 14 ∧ ∀ b ∈ made l, Bd 2000000 b := by
  refine ⟨by simp [made]; omega, fun b hb => ?_⟩
  obtain ⟨t, _, rfl⟩ := List.mem_map.1 hb
  have m1 := tmod_bd t.1 1000000 (by omega)
  have m2 := tmod_bd t.2.1 1000 (by omega)
  exact ⟨by simp [made1]; omega, by simp [made1]; omega, by simp [made1]; omega, by simp [made1]; omega, by simp [made1]; omega, by simp [made1]; omega⟩

theorem moved_ok (M : Int) (l : List Br) (q : List Int) (vl vq : Value) (h : Hp) (hR : RdL cBr 6 h [] vl l) (hRq : RdL cI 1 h [] vq q) (hM : 0 ≤ M ∧ M ≤ 1000000000) (hl : l.length ≤ 1000000) (hA : ∀ b ∈ l, Bd M b) (hQ : ∀ n ∈ q, I64 n) :
    FnT Try.prog 11 #[vl, vq] h [] (fun r h' ms' => ms' = [] ∧ ∃ o, RdL cBr 6 h' [] r o ∧ (∀ b ∈ o, Bd (M + 10) b) ∧ o.length ≤ 2 * l.length) := by
  have hql := hRq.len_le
  refine fn_enter Try.func11 Try.ntmps11 rfl rfl (fun w0 hw0 => ?_)
  simp only [argS]
  refine ws_seq ?_
  refine ws_region ?_
  refine wl_x (ox_assign rfl rfl) rfl rfl rfl ?_
  refine wl_nil ?_
  refine nx_then ?_
  refine ws_seq ?_
  refine ws_region ?_
  refine wl_x (ox_assign rfl rfl) rfl rfl rfl ?_
  refine wl_nil ?_
  refine nx_then ?_
  refine ws_seq ?_
  refine ws_seq ?_
  refine ws_region ?_
  refine wl_x (ox_assign rfl rfl) rfl rfl rfl ?_
  refine wl_nil ?_
  refine nx_then ?_
  refine ws_block ?_
  refine ws_emp ?_
  refine ws_loop (fun n s h' ms' => ∃ (k : Nat) (v : Value) (m : Hp) (o : List Br), n = l.length - k ∧ s = [(0, vl), (1, vq), (5, v), (6, .int .i64 k)] ∧ h = h' ∧ ms' = [m] ∧ k ≤ l.length ∧ OwnL cBr 6 40 m v o ∧ (∀ b ∈ o, Bd (M + 10) b) ∧ o.length ≤ 2 * k)
    (l.length - 0) _ ⟨0, _, _, [], rfl, rfl, rfl, rfl, by omega, OwnL.nil cBr_len, by simp, by simp⟩ (by repeat (first | exact trivial | refine ⟨rfl, ?_⟩)) ?_
  rintro n s h' ms' ⟨k, v, m, o, rfl, rfl, rfl, rfl, hk, hO, hB, hol⟩
  refine ws_seq ?_
  refine ws_seq ?_
  refine ws_region ?_
  refine wl_x (ox_move rfl rfl) rfl rfl rfl ?_
  refine wl_x (ox_move rfl rfl) rfl rfl rfl ?_
  first | refine wl_x (ox_len (ty := 25) rfl Try.underlying25 rfl) rfl rfl rfl ?_ | refine wl_x (ox_lenR hR.rd.any rfl Try.underlying25 rfl) rfl rfl rfl ?_ | refine wl_x (ox_lenR hRq.rd.any rfl Try.underlying25 rfl) rfl rfl rfl ?_
  refine wl_x (ox_lss rfl rfl rfl) rfl rfl rfl ?_
  refine wl_nil ?_
  refine nx_then ?_
  refine ws_if rfl (fun hlt => ?_) (fun hlt => ?_)
  · skip
    have hkl : k < l.length := by omega
    obtain ⟨x1, x2, x3, x4, x5, x6⟩ := hA _ (List.getElem_mem hkl)
    refine ws_skip ?_
    refine nx_then ?_
    refine ws_seq ?_
    refine ws_block ?_
    refine ws_seq ?_
    refine ws_region ?_
    refine wl_x (ox_move rfl rfl) rfl rfl rfl ?_
    refine wl_x (ox_move rfl rfl) rfl rfl rfl ?_
    first | refine wl_x (ox_index _ rfl Try.underlying25 el40 rfl rfl rfl (by omega)) rfl rfl rfl ?_ | refine wl_x (ox_indexR _ hR.rd.any rfl Try.underlying25 el40 rfl rfl rfl (by omega)) rfl rfl rfl ?_ | refine wl_x (ox_indexR _ hRq.rd.any rfl Try.underlying25 el40 rfl rfl rfl (by omega)) rfl rfl rfl ?_
    refine wl_x (ox_loadG rfl Try.underlying40 rfl el40 rfl rfl (by first | exact hR.any.seg hkl)) rfl rfl rfl ?_
    refine wl_alloc [.int .i64 0, .int .i64 0, .int .i64 0, .bool false, .int .i64 0, .int .i64 0] rfl el40 rfl rfl rfl rfl (fun g7 => ?_)
    first | refine wl_storeAll 0 [_, _, _, _, _, _] rfl el40 rfl rfl rfl (by first | (simp [Value.oneCell']; done) | (simp [(hR.rd.any).one, (hRq.rd.any).one]; done) | simp [Value.oneCell', (hR.rd.any).one, (hRq.rd.any).one]) rfl rfl rfl rfl rfl ?_ | refine wl_storeAll 1 [_, _, _, _, _, _] rfl el40 rfl rfl rfl (by first | (simp [Value.oneCell']; done) | (simp [(hR.rd.any).one, (hRq.rd.any).one]; done) | simp [Value.oneCell', (hR.rd.any).one, (hRq.rd.any).one]) rfl rfl rfl rfl rfl ?_ | refine wl_storeAll 2 [_, _, _, _, _, _] rfl el40 rfl rfl rfl (by first | (simp [Value.oneCell']; done) | (simp [(hR.rd.any).one, (hRq.rd.any).one]; done) | simp [Value.oneCell', (hR.rd.any).one, (hRq.rd.any).one]) rfl rfl rfl rfl rfl ?_ | refine wl_storeAll 3 [_, _, _, _, _, _] rfl el40 rfl rfl rfl (by first | (simp [Value.oneCell']; done) | (simp [(hR.rd.any).one, (hRq.rd.any).one]; done) | simp [Value.oneCell', (hR.rd.any).one, (hRq.rd.any).one]) rfl rfl rfl rfl rfl ?_ | refine wl_storeAll 4 [_, _, _, _, _, _] rfl el40 rfl rfl rfl (by first | (simp [Value.oneCell']; done) | (simp [(hR.rd.any).one, (hRq.rd.any).one]; done) | simp [Value.oneCell', (hR.rd.any).one, (hRq.rd.any).one]) rfl rfl rfl rfl rfl ?_
    refine wl_nil ?_
    refine nx_then ?_
    refine ws_seq ?_
    refine ws_region ?_
    refine wl_x (ox_assign rfl rfl) rfl rfl rfl ?_
    refine wl_nil ?_
    refine nx_then ?_
    refine ws_cut (fun s h' ms' => ∃ n : Int, s = [(0, vl), (1, vq), (5, v), (6, .int .i64 k), (7, .pointer (some ⟨g7, 0, none⟩)), (8, .int .i64 n)] ∧ h' = h ∧ ms' = [Blk g7 40 (cBr l[k]), m] ∧ I64 n) ?_ (fun s h ms hI => ?_)
    · skip
      refine ws_seq ?_
      refine ws_region ?_
      refine wl_x (ox_move rfl rfl) rfl rfl rfl ?_
      first | refine wl_x (ox_len (ty := 23) rfl Try.underlying23 rfl) rfl rfl rfl ?_ | refine wl_x (ox_lenR hR.rd.any rfl Try.underlying23 rfl) rfl rfl rfl ?_ | refine wl_x (ox_lenR hRq.rd.any rfl Try.underlying23 rfl) rfl rfl rfl ?_
      refine wl_x (ox_gtr rfl rfl rfl) rfl rfl rfl ?_
      refine wl_nil ?_
      refine nx_then ?_
      refine ws_if rfl (fun hq0 => ?_) (fun hq0 => ?_)
      · skip
        have hqp : 0 < q.length := by omega
        have hmd : k % q.length < q.length := Nat.mod_lt _ hqp
        refine ws_region ?_
        refine wl_x (ox_move rfl rfl) rfl rfl rfl ?_
        refine wl_x (ox_move rfl rfl) rfl rfl rfl ?_
        refine wl_x (ox_move rfl rfl) rfl rfl rfl ?_
        first | refine wl_x (ox_len (ty := 23) rfl Try.underlying23 rfl) rfl rfl rfl ?_ | refine wl_x (ox_lenR hR.rd.any rfl Try.underlying23 rfl) rfl rfl rfl ?_ | refine wl_x (ox_lenR hRq.rd.any rfl Try.underlying23 rfl) rfl rfl rfl ?_
        first | refine wl_x (ox_remP rfl rfl rfl (by omega) (by omega)) rfl rfl rfl ?_ | refine wl_x (ox_rem rfl rfl rfl (by omega)) rfl rfl rfl ?_
        first | refine wl_x (ox_index (k % q.length) rfl Try.underlying23 el3 rfl rfl (by omega) (by omega)) rfl rfl rfl ?_ | refine wl_x (ox_indexR (k % q.length) hR.rd.any rfl Try.underlying23 el3 rfl rfl (by omega) (by omega)) rfl rfl rfl ?_ | refine wl_x (ox_indexR (k % q.length) hRq.rd.any rfl Try.underlying23 el3 rfl rfl (by omega) (by omega)) rfl rfl rfl ?_
        refine wl_x (ox_load rfl Try.underlying3 rfl rfl (by first | exact hRq.any.cell0 hmd rfl)) rfl rfl rfl ?_
        refine wl_x (ox_assign rfl rfl) rfl rfl rfl ?_
        refine wl_nil ?_
        refine nx_meet _ ⟨_, rfl, rfl, rfl, hQ _ (List.getElem_mem hmd)⟩ (by repeat (first | exact trivial | refine ⟨rfl, ?_⟩))
      · skip
        refine ws_skip ?_
        refine nx_meet _ ⟨0, rfl, rfl, rfl, by unfold I64; omega⟩ (by repeat (first | exact trivial | refine ⟨rfl, ?_⟩))
    obtain ⟨n, rfl, rfl, rfl, hn⟩ := hI
    · skip
      have hn1 := hn.1
      have hn2 := hn.2
      have y1 := tmod_bd n 4 (by omega)
      have y2 := tmod_bd (n.tdiv 4) 4 (by omega)
      refine ws_seq ?_
      refine ws_region ?_
      refine wl_x (ox_fieldF fd40_1 rfl rfl) rfl rfl rfl ?_
      refine wl_x (ox_load rfl Try.underlying3 rfl rfl (by first | exact Cell.blk 0 rfl rfl | exact Cell.blk 1 rfl rfl | exact Cell.blk 2 rfl rfl | exact Cell.blk 3 rfl rfl | exact Cell.blk 4 rfl rfl | exact hRq.any.cell0 hmd rfl)) rfl rfl rfl ?_
      refine wl_x (ox_move rfl rfl) rfl rfl rfl ?_
      first | refine wl_x (ox_remP rfl rfl rfl (by omega) (by omega)) rfl rfl rfl ?_ | refine wl_x (ox_rem rfl rfl rfl (by omega)) rfl rfl rfl ?_
      refine wl_x (ox_add rfl rfl rfl (by omega)) rfl rfl rfl ?_
      refine wl_x (ox_fieldF fd40_1 rfl rfl) rfl rfl rfl ?_
      first | refine wl_storeAt 0 _ rfl el3 rfl rfl (by first | rfl | exact Rd.one ‹_› | exact (RdL.rd ‹_›).one) rfl rfl (by first | decide | (simp; done) | exact of_decide_eq_true rfl | (simp; omega)) rfl rfl ?_ | refine wl_storeAt 1 _ rfl el3 rfl rfl (by first | rfl | exact Rd.one ‹_› | exact (RdL.rd ‹_›).one) rfl rfl (by first | decide | (simp; done) | exact of_decide_eq_true rfl | (simp; omega)) rfl rfl ?_ | refine wl_storeAt 2 _ rfl el3 rfl rfl (by first | rfl | exact Rd.one ‹_› | exact (RdL.rd ‹_›).one) rfl rfl (by first | decide | (simp; done) | exact of_decide_eq_true rfl | (simp; omega)) rfl rfl ?_ | refine wl_storeAt 3 _ rfl el3 rfl rfl (by first | rfl | exact Rd.one ‹_› | exact (RdL.rd ‹_›).one) rfl rfl (by first | decide | (simp; done) | exact of_decide_eq_true rfl | (simp; omega)) rfl rfl ?_ | refine wl_storeAt 4 _ rfl el3 rfl rfl (by first | rfl | exact Rd.one ‹_› | exact (RdL.rd ‹_›).one) rfl rfl (by first | decide | (simp; done) | exact of_decide_eq_true rfl | (simp; omega)) rfl rfl ?_
      refine wl_nil ?_
      refine nx_then ?_
      refine ws_seq ?_
      refine ws_region ?_
      refine wl_x (ox_fieldF fd40_2 rfl rfl) rfl rfl rfl ?_
      refine wl_x (ox_load rfl Try.underlying3 rfl rfl (by first | exact Cell.blk 0 rfl rfl | exact Cell.blk 1 rfl rfl | exact Cell.blk 2 rfl rfl | exact Cell.blk 3 rfl rfl | exact Cell.blk 4 rfl rfl | exact hRq.any.cell0 hmd rfl)) rfl rfl rfl ?_
      refine wl_x (ox_move rfl rfl) rfl rfl rfl ?_
      first | refine wl_x (ox_quoP rfl rfl rfl (by omega) (by omega)) rfl rfl rfl ?_ | refine wl_x (ox_quo rfl rfl rfl (by omega) (by omega)) rfl rfl rfl ?_
      first | refine wl_x (ox_remP rfl rfl rfl (by omega) (by omega)) rfl rfl rfl ?_ | refine wl_x (ox_rem rfl rfl rfl (by omega)) rfl rfl rfl ?_
      refine wl_x (ox_add rfl rfl rfl (by omega)) rfl rfl rfl ?_
      refine wl_x (ox_fieldF fd40_2 rfl rfl) rfl rfl rfl ?_
      first | refine wl_storeAt 0 _ rfl el3 rfl rfl (by first | rfl | exact Rd.one ‹_› | exact (RdL.rd ‹_›).one) rfl rfl (by first | decide | (simp; done) | exact of_decide_eq_true rfl | (simp; omega)) rfl rfl ?_ | refine wl_storeAt 1 _ rfl el3 rfl rfl (by first | rfl | exact Rd.one ‹_› | exact (RdL.rd ‹_›).one) rfl rfl (by first | decide | (simp; done) | exact of_decide_eq_true rfl | (simp; omega)) rfl rfl ?_ | refine wl_storeAt 2 _ rfl el3 rfl rfl (by first | rfl | exact Rd.one ‹_› | exact (RdL.rd ‹_›).one) rfl rfl (by first | decide | (simp; done) | exact of_decide_eq_true rfl | (simp; omega)) rfl rfl ?_ | refine wl_storeAt 3 _ rfl el3 rfl rfl (by first | rfl | exact Rd.one ‹_› | exact (RdL.rd ‹_›).one) rfl rfl (by first | decide | (simp; done) | exact of_decide_eq_true rfl | (simp; omega)) rfl rfl ?_ | refine wl_storeAt 4 _ rfl el3 rfl rfl (by first | rfl | exact Rd.one ‹_› | exact (RdL.rd ‹_›).one) rfl rfl (by first | decide | (simp; done) | exact of_decide_eq_true rfl | (simp; omega)) rfl rfl ?_
      refine wl_nil ?_
      refine nx_then ?_
      refine ws_seq ?_
      refine ws_region ?_
      refine wl_x (ox_fieldF fd40_4 rfl rfl) rfl rfl rfl ?_
      refine wl_x (ox_load rfl Try.underlying3 rfl rfl (by first | exact Cell.blk 0 rfl rfl | exact Cell.blk 1 rfl rfl | exact Cell.blk 2 rfl rfl | exact Cell.blk 3 rfl rfl | exact Cell.blk 4 rfl rfl | exact hRq.any.cell0 hmd rfl)) rfl rfl rfl ?_
      refine wl_x (ox_move rfl rfl) rfl rfl rfl ?_
      refine wl_x (ox_addW rfl rfl rfl) rfl rfl rfl ?_
      refine wl_x (ox_fieldF fd40_4 rfl rfl) rfl rfl rfl ?_
      first | refine wl_storeAt 0 _ rfl el3 rfl rfl (by first | rfl | exact Rd.one ‹_› | exact (RdL.rd ‹_›).one) rfl rfl (by first | decide | (simp; done) | exact of_decide_eq_true rfl | (simp; omega)) rfl rfl ?_ | refine wl_storeAt 1 _ rfl el3 rfl rfl (by first | rfl | exact Rd.one ‹_› | exact (RdL.rd ‹_›).one) rfl rfl (by first | decide | (simp; done) | exact of_decide_eq_true rfl | (simp; omega)) rfl rfl ?_ | refine wl_storeAt 2 _ rfl el3 rfl rfl (by first | rfl | exact Rd.one ‹_› | exact (RdL.rd ‹_›).one) rfl rfl (by first | decide | (simp; done) | exact of_decide_eq_true rfl | (simp; omega)) rfl rfl ?_ | refine wl_storeAt 3 _ rfl el3 rfl rfl (by first | rfl | exact Rd.one ‹_› | exact (RdL.rd ‹_›).one) rfl rfl (by first | decide | (simp; done) | exact of_decide_eq_true rfl | (simp; omega)) rfl rfl ?_ | refine wl_storeAt 4 _ rfl el3 rfl rfl (by first | rfl | exact Rd.one ‹_› | exact (RdL.rd ‹_›).one) rfl rfl (by first | decide | (simp; done) | exact of_decide_eq_true rfl | (simp; omega)) rfl rfl ?_
      refine wl_nil ?_
      refine nx_then ?_
      refine ws_cut (fun s h' ms' => ∃ (v2 : Value) (m2 : Hp) (o2 : List Br), s = [(0, vl), (1, vq), (5, v2), (6, .int .i64 k), (7, .pointer (some ⟨g7, 0, none⟩)), (8, .int .i64 n)] ∧ h' = h ∧ ms' = [Blk g7 40 (cBr ⟨l[k].dim, l[k].birth + n.tmod 4, l[k].death + (n.tdiv 4).tmod 4, l[k].opn, IntKind.i64.wrap (l[k].low + n), l[k].high⟩), m2] ∧ OwnL cBr 6 40 m2 v2 o2 ∧ (∀ b ∈ o2, Bd (M + 10) b) ∧ o2.length ≤ 2 * k + 1) ?_ (fun s h ms hI => ?_)
      · skip
        refine ws_seq ?_
        refine ws_region ?_
        refine wl_x (ox_move rfl rfl) rfl rfl rfl ?_
        first | refine wl_x (ox_remP rfl rfl rfl (by omega) (by omega)) rfl rfl rfl ?_ | refine wl_x (ox_rem rfl rfl rfl (by omega)) rfl rfl rfl ?_
        refine wl_x (ox_nei rfl rfl rfl) rfl rfl rfl ?_
        refine wl_x (ox_move rfl rfl) rfl rfl rfl ?_
        refine wl_split (t := 50) rfl (fun hn9 => ?_) (fun hn9 => ?_)
        · skip
          refine wl_skip rfl rfl rfl rfl rfl rfl rfl ?_
          refine wl_skip rfl rfl rfl rfl rfl rfl rfl ?_
          refine wl_x (ox_pick_t rfl rfl rfl) rfl rfl rfl ?_
          refine wl_nil ?_
          refine nx_then ?_
          refine ws_cond_t rfl ?_
          refine ws_region ?_
          refine wl_x (ox_move rfl rfl) rfl rfl rfl ?_
          refine wl_x (ox_loadG rfl Try.underlying40 rfl el40 rfl rfl (by first | exact Seg.blk 0 rfl | exact Seg.blk 1 rfl | exact Seg.blk 2 rfl | exact Seg.blk 3 rfl | exact Seg.blk 4 rfl | exact hR.any.seg hkl)) rfl rfl rfl ?_
          refine wl_buildSlice1 [_, _, _, _, _, _] rfl Try.underlying25 el40 rfl (by first | rfl | exact (hR.rd.any).cells | exact (hRq.rd.any).cells | exact Rd.cells ‹_› | exact (RdL.rd ‹_›).cells) rfl rfl (by omega) rfl rfl rfl (fun g56 => ?_)
          refine wl_appendL 2 hO (RdL.one cBr_len (x := ⟨l[k].dim, l[k].birth + n.tmod 4, l[k].death + (n.tdiv 4).tmod 4, l[k].opn, IntKind.i64.wrap (l[k].low + n), l[k].high⟩) (List.Mem.head _) rfl) rfl Try.underlying25 el40 rfl (by omega) rfl rfl rfl cBr_one (by simp; omega) (by simp; omega) rfl rfl rfl (fun v' m' hO' => ?_)
          refine wl_x (ox_assign rfl rfl) rfl rfl rfl ?_
          refine wl_nil ?_
          refine nx_perm (List.Perm.refl _) (nx_drop ?_)
          refine nx_meet _ ⟨v', m', _, rfl, rfl, rfl, hO', fun b hb => by
            rcases List.mem_append.1 hb with hb | hb
            · exact hB b hb
            · obtain rfl := List.mem_singleton.1 hb
              exact ⟨by show _ ≤ l[k].birth + n.tmod 4; omega, by show l[k].birth + n.tmod 4 ≤ _; omega, by show _ ≤ l[k].death + (n.tdiv 4).tmod 4; omega, by show l[k].death + (n.tdiv 4).tmod 4 ≤ _; omega, x5, x6⟩, by simp; omega⟩ (by repeat (first | exact trivial | refine ⟨rfl, ?_⟩))
        · skip
          refine wl_gx (ox_fieldF fd40_3 rfl rfl) rfl rfl rfl rfl rfl rfl ?_
          refine wl_gx (ox_load rfl Try.underlying4 rfl rfl (by first | exact Cell.blk 0 rfl rfl | exact Cell.blk 1 rfl rfl | exact Cell.blk 2 rfl rfl | exact Cell.blk 3 rfl rfl | exact Cell.blk 4 rfl rfl | exact hRq.any.cell0 hmd rfl)) rfl rfl rfl rfl rfl rfl ?_
          refine wl_x (ox_pick_f rfl rfl rfl) rfl rfl rfl ?_
          refine wl_nil ?_
          refine nx_then ?_
          refine ws_cond rfl (fun ho => ?_) (fun ho => ?_)
          · skip
            refine ws_region ?_
            refine wl_x (ox_move rfl rfl) rfl rfl rfl ?_
            refine wl_x (ox_loadG rfl Try.underlying40 rfl el40 rfl rfl (by first | exact Seg.blk 0 rfl | exact Seg.blk 1 rfl | exact Seg.blk 2 rfl | exact Seg.blk 3 rfl | exact Seg.blk 4 rfl | exact hR.any.seg hkl)) rfl rfl rfl ?_
            refine wl_buildSlice1 [_, _, _, _, _, _] rfl Try.underlying25 el40 rfl (by first | rfl | exact (hR.rd.any).cells | exact (hRq.rd.any).cells | exact Rd.cells ‹_› | exact (RdL.rd ‹_›).cells) rfl rfl (by omega) rfl rfl rfl (fun g56 => ?_)
            refine wl_appendL 2 hO (RdL.one cBr_len (x := ⟨l[k].dim, l[k].birth + n.tmod 4, l[k].death + (n.tdiv 4).tmod 4, l[k].opn, IntKind.i64.wrap (l[k].low + n), l[k].high⟩) (List.Mem.head _) rfl) rfl Try.underlying25 el40 rfl (by omega) rfl rfl rfl cBr_one (by simp; omega) (by simp; omega) rfl rfl rfl (fun v' m' hO' => ?_)
            refine wl_x (ox_assign rfl rfl) rfl rfl rfl ?_
            refine wl_nil ?_
            refine nx_perm (List.Perm.refl _) (nx_drop ?_)
            refine nx_meet _ ⟨v', m', _, rfl, rfl, rfl, hO', fun b hb => by
              rcases List.mem_append.1 hb with hb | hb
              · exact hB b hb
              · obtain rfl := List.mem_singleton.1 hb
                exact ⟨by show _ ≤ l[k].birth + n.tmod 4; omega, by show l[k].birth + n.tmod 4 ≤ _; omega, by show _ ≤ l[k].death + (n.tdiv 4).tmod 4; omega, by show l[k].death + (n.tdiv 4).tmod 4 ≤ _; omega, x5, x6⟩, by simp; omega⟩ (by repeat (first | exact trivial | refine ⟨rfl, ?_⟩))
          · skip
            refine ws_skip ?_
            refine nx_meet _ ⟨v, m, o, rfl, rfl, rfl, hO, hB, by omega⟩ (by repeat (first | exact trivial | refine ⟨rfl, ?_⟩))
      obtain ⟨v2, m2, o2, rfl, rfl, rfl, hO2, hB2, hol2⟩ := hI
      · skip
        refine ws_seq ?_
        refine ws_region ?_
        refine wl_x (ox_move rfl rfl) rfl rfl rfl ?_
        first | refine wl_x (ox_remP rfl rfl rfl (by omega) (by omega)) rfl rfl rfl ?_ | refine wl_x (ox_rem rfl rfl rfl (by omega)) rfl rfl rfl ?_
        refine wl_x (ox_eqi rfl rfl rfl) rfl rfl rfl ?_
        refine wl_x (ox_move rfl rfl) rfl rfl rfl ?_
        refine wl_split (t := 61) rfl (fun hn3 => ?_) (fun hn3 => ?_)
        · skip
          refine wl_gx (ox_fieldF fd40_3 rfl rfl) rfl rfl rfl rfl rfl rfl ?_
          refine wl_gx (ox_load rfl Try.underlying4 rfl rfl (by first | exact Cell.blk 0 rfl rfl | exact Cell.blk 1 rfl rfl | exact Cell.blk 2 rfl rfl | exact Cell.blk 3 rfl rfl | exact Cell.blk 4 rfl rfl | exact hRq.any.cell0 hmd rfl)) rfl rfl rfl rfl rfl rfl ?_
          refine wl_gx (ox_not rfl rfl) rfl rfl rfl rfl rfl rfl ?_
          refine wl_x (ox_pick_t rfl rfl rfl) rfl rfl rfl ?_
          refine wl_nil ?_
          refine nx_then ?_
          refine ws_cond rfl (fun ho => ?_) (fun ho => ?_)
          · skip
            refine ws_seq ?_
            refine ws_draw 5 fol (by kernel_rfl) rfl ?_
            simp only [List.take_succ_cons, List.take_zero, List.drop_succ_cons, List.drop_zero, List.take_nil, List.drop_nil]
            refine wr_x (ox_fieldF fd40_1 rfl rfl) rfl rfl ?_
            refine wr_x (ox_load rfl Try.underlying3 rfl rfl (by first | exact Cell.blk 0 rfl rfl | exact Cell.blk 1 rfl rfl | exact Cell.blk 2 rfl rfl | exact Cell.blk 3 rfl rfl | exact Cell.blk 4 rfl rfl | exact hRq.any.cell0 hmd rfl)) rfl rfl ?_
            refine wr_x (ox_add rfl rfl rfl (by dsimp only; omega)) rfl rfl ?_
            refine wr_x (ox_move rfl rfl) rfl rfl ?_
            refine wr_x (ox_call rfl Try.call24 rfl (mod_ok _ _ (by omega) (by omega) _ _)) rfl rfl ?_
            refine wr_nil ?_
            refine wl_x (ox_add rfl rfl rfl (by dsimp only; omega)) rfl rfl rfl ?_
            refine wl_x (ox_fieldF fd40_2 rfl rfl) rfl rfl rfl ?_
            first | refine wl_storeAt 0 _ rfl el3 rfl rfl (by first | rfl | exact Rd.one ‹_› | exact (RdL.rd ‹_›).one) rfl rfl (by first | decide | (simp; done) | exact of_decide_eq_true rfl | (simp; omega)) rfl rfl ?_ | refine wl_storeAt 1 _ rfl el3 rfl rfl (by first | rfl | exact Rd.one ‹_› | exact (RdL.rd ‹_›).one) rfl rfl (by first | decide | (simp; done) | exact of_decide_eq_true rfl | (simp; omega)) rfl rfl ?_ | refine wl_storeAt 2 _ rfl el3 rfl rfl (by first | rfl | exact Rd.one ‹_› | exact (RdL.rd ‹_›).one) rfl rfl (by first | decide | (simp; done) | exact of_decide_eq_true rfl | (simp; omega)) rfl rfl ?_ | refine wl_storeAt 3 _ rfl el3 rfl rfl (by first | rfl | exact Rd.one ‹_› | exact (RdL.rd ‹_›).one) rfl rfl (by first | decide | (simp; done) | exact of_decide_eq_true rfl | (simp; omega)) rfl rfl ?_ | refine wl_storeAt 4 _ rfl el3 rfl rfl (by first | rfl | exact Rd.one ‹_› | exact (RdL.rd ‹_›).one) rfl rfl (by first | decide | (simp; done) | exact of_decide_eq_true rfl | (simp; omega)) rfl rfl ?_
            refine wl_nil ?_
            refine nx_then ?_
            refine ws_region ?_
            refine wl_x (ox_move rfl rfl) rfl rfl rfl ?_
            refine wl_x (ox_loadG rfl Try.underlying40 rfl el40 rfl rfl (by first | exact Seg.blk 0 rfl | exact Seg.blk 1 rfl | exact Seg.blk 2 rfl | exact Seg.blk 3 rfl | exact Seg.blk 4 rfl | exact hR.any.seg hkl)) rfl rfl rfl ?_
            refine wl_buildSlice1 [_, _, _, _, _, _] rfl Try.underlying25 el40 rfl (by first | rfl | exact (hR.rd.any).cells | exact (hRq.rd.any).cells | exact Rd.cells ‹_› | exact (RdL.rd ‹_›).cells) rfl rfl (by omega) rfl rfl rfl (fun g75 => ?_)
            refine wl_appendL 2 hO2 (RdL.one cBr_len (x := ⟨l[k].dim, l[k].birth + n.tmod 4, l[k].birth + n.tmod 4 + 1 + n % 5, l[k].opn, IntKind.i64.wrap (l[k].low + n), l[k].high⟩) (List.Mem.head _) rfl) rfl Try.underlying25 el40 rfl (by omega) rfl rfl rfl cBr_one (by simp; omega) (by simp; omega) rfl rfl rfl (fun v3 m3 hO3 => ?_)
            refine wl_x (ox_assign rfl rfl) rfl rfl rfl ?_
            refine wl_nil ?_
            refine nx_block ?_
            refine nx_then ?_
            refine ws_region ?_
            refine wl_x (ox_move rfl rfl) rfl rfl rfl ?_
            refine wl_x (ox_add rfl rfl rfl (by omega)) rfl rfl rfl ?_
            refine wl_x (ox_assign rfl rfl) rfl rfl rfl ?_
            refine wl_nil ?_
            refine nx_drop (nx_drop ?_)
            refine nx_round (l.length - (k + 1)) _ (by omega) ⟨k + 1, v3, m3, _, rfl, rfl, rfl, rfl, by omega, hO3, fun b hb => by
              rcases List.mem_append.1 hb with hb | hb
              · exact hB2 b hb
              · obtain rfl := List.mem_singleton.1 hb
                exact ⟨by show _ ≤ l[k].birth + n.tmod 4; omega, by show l[k].birth + n.tmod 4 ≤ _; omega, by show _ ≤ l[k].birth + n.tmod 4 + 1 + n % 5; omega, by show l[k].birth + n.tmod 4 + 1 + n % 5 ≤ _; omega, x5, x6⟩, by simp; omega⟩ (by repeat (first | exact trivial | refine ⟨rfl, ?_⟩))
          · skip
            refine ws_skip ?_
            refine nx_block ?_
            refine nx_then ?_
            refine ws_region ?_
            refine wl_x (ox_move rfl rfl) rfl rfl rfl ?_
            refine wl_x (ox_add rfl rfl rfl (by omega)) rfl rfl rfl ?_
            refine wl_x (ox_assign rfl rfl) rfl rfl rfl ?_
            refine wl_nil ?_
            refine nx_drop ?_
            refine nx_round (l.length - (k + 1)) _ (by omega) ⟨k + 1, v2, m2, _, rfl, rfl, rfl, rfl, by omega, hO2, hB2, by omega⟩ (by repeat (first | exact trivial | refine ⟨rfl, ?_⟩))
        · skip
          refine wl_skip rfl rfl rfl rfl rfl rfl rfl ?_
          refine wl_skip rfl rfl rfl rfl rfl rfl rfl ?_
          refine wl_skip rfl rfl rfl rfl rfl rfl rfl ?_
          refine wl_x (ox_pick_f rfl rfl rfl) rfl rfl rfl ?_
          refine wl_nil ?_
          refine nx_then ?_
          refine ws_cond_f rfl ?_
          refine ws_skip ?_
          refine nx_block ?_
          refine nx_then ?_
          refine ws_region ?_
          refine wl_x (ox_move rfl rfl) rfl rfl rfl ?_
          refine wl_x (ox_add rfl rfl rfl (by omega)) rfl rfl rfl ?_
          refine wl_x (ox_assign rfl rfl) rfl rfl rfl ?_
          refine wl_nil ?_
          refine nx_drop ?_
          refine nx_round (l.length - (k + 1)) _ (by omega) ⟨k + 1, v2, m2, _, rfl, rfl, rfl, rfl, by omega, hO2, hB2, by omega⟩ (by repeat (first | exact trivial | refine ⟨rfl, ?_⟩))
  · skip
    refine ws_exit ?_
    refine nx_then_exit ?_
    refine nx_then_exit ?_
    refine nx_block_exit ?_
    refine nx_then ?_
    refine ws_seq ?_
    refine ws_region ?_
    refine wl_x (ox_move rfl rfl) rfl rfl rfl ?_
    refine wl_x (ox_assign rfl rfl) rfl rfl rfl ?_
    refine wl_nil ?_
    refine nx_then ?_
    refine ws_ret ?_
    refine nx_freezeL hO (fun h' hle hR' => ?_)
    exact nx_ret1 rfl rfl (⟨rfl, o, hR', hB, by omega⟩)
end Go.Proofs.Ythdkhnjnhhofgaa

/- Walks: for all lists, Distance2 returns what the reference model returns. -/
set_option linter.unusedSimpArgs false
set_option linter.unusedVariables false
set_option maxRecDepth 100000
namespace Go.Proofs.Ythdkhnjnhhofgaa
open Go.Eng Go.RowKit Go.Kuhn

theorem distances_ok (l m : List Tri) (q : List Int) (vl vm vq : Value) (h : Hp) (hl : RdL cT 3 h [] vl l) (hm : RdL cT 3 h [] vm m) (hq : RdL cI 1 h [] vq q) (hL : ∀ t ∈ l, TOk t) (hM : ∀ t ∈ m, TOk t) (hQ : ∀ n ∈ q, I64 n) :
    FnT Try.prog 3 #[vl, vm, vq] h [] (fun r _ _ => r = .bool true) := by
  refine fn_enter Try.func3 Try.ntmps3 rfl rfl (fun w0 hw0 => ?_)
  simp only [argS]
  refine ws_seq ?_
  refine ws_region ?_
  refine wl_x (ox_assign rfl rfl) rfl rfl rfl ?_
  refine wl_nil ?_
  refine nx_then ?_
  refine ws_seq ?_
  refine ws_region ?_
  refine wl_x (ox_call rfl Try.call9 rfl (sanity_ok _ _)) rfl rfl rfl ?_
  refine wl_x (ox_assign rfl rfl) rfl rfl rfl ?_
  refine wl_nil ?_
  refine nx_then ?_
  refine ws_seq ?_
  refine ws_region ?_
  refine wl_x (ox_move rfl rfl) rfl rfl rfl ?_
  refine wl_call rfl Try.call10 rfl (made_ok l vl h hl hL) rfl rfl rfl (fun va h1 _ l1 hF => ?_)
  obtain ⟨rfl, hRa⟩ := hF
  obtain ⟨la, ba⟩ := made_bd l
  refine wl_x (ox_assign rfl rfl) rfl rfl rfl ?_
  refine wl_nil ?_
  refine nx_then ?_
  refine ws_seq ?_
  refine ws_region ?_
  refine wl_x (ox_move rfl rfl) rfl rfl rfl ?_
  refine wl_call rfl Try.call10 rfl (made_ok m vm h1 (hm.up l1) hM) rfl rfl rfl (fun vb h2 _ l2 hF => ?_)
  obtain ⟨rfl, hRb⟩ := hF
  obtain ⟨lb, bb⟩ := made_bd m
  refine wl_x (ox_move rfl rfl) rfl rfl rfl ?_
  refine wl_x (ox_move rfl rfl) rfl rfl rfl ?_
  refine wl_call rfl Try.call11 rfl (moved_ok 2000000 (made l) q va vq h2 (hRa.up l2) (hq.up (Hp.le_trans l1 l2)) (by omega) (by omega) ba hQ) rfl rfl rfl (fun vc h3 _ l3 hF => ?_)
  obtain ⟨rfl, c, hRc, bc, lc⟩ := hF
  have hRa := hRa.up (Hp.le_trans l2 l3)
  have hRb := hRb.up l3
  generalize made l = a at *
  generalize made m = b at *
  refine wl_x (ox_buildA [.slice none 0 0, .slice none 0 0] [(0, [_]), (1, [_])] [_, _] rfl Try.underlying28 el28 rfl el25 rfl (by repeat (first | exact trivial | refine ⟨⟨by first | rfl | exact (hRb.rd).cells | exact (hRc.rd).cells | exact Rd.cells ‹_› | exact (RdL.rd ‹_›).cells, rfl, rfl⟩, ?_⟩)) rfl) rfl rfl rfl ?_
  refine wl_alloc [.slice none 0 0, .slice none 0 0] rfl el28 rfl rfl rfl rfl (fun g9 => ?_)
  first | refine wl_storeAll 0 [_, _] rfl el28 rfl rfl rfl (by first | (simp [Value.oneCell']; done) | (simp [(hRb.rd).one, (hRc.rd).one]; done) | simp [Value.oneCell', (hRb.rd).one, (hRc.rd).one]) rfl rfl rfl rfl rfl ?_ | refine wl_storeAll 1 [_, _] rfl el28 rfl rfl rfl (by first | (simp [Value.oneCell']; done) | (simp [(hRb.rd).one, (hRc.rd).one]; done) | simp [Value.oneCell', (hRb.rd).one, (hRc.rd).one]) rfl rfl rfl rfl rfl ?_ | refine wl_storeAll 2 [_, _] rfl el28 rfl rfl rfl (by first | (simp [Value.oneCell']; done) | (simp [(hRb.rd).one, (hRc.rd).one]; done) | simp [Value.oneCell', (hRb.rd).one, (hRc.rd).one]) rfl rfl rfl rfl rfl ?_ | refine wl_storeAll 3 [_, _] rfl el28 rfl rfl rfl (by first | (simp [Value.oneCell']; done) | (simp [(hRb.rd).one, (hRc.rd).one]; done) | simp [Value.oneCell', (hRb.rd).one, (hRc.rd).one]) rfl rfl rfl rfl rfl ?_ | refine wl_storeAll 4 [_, _] rfl el28 rfl rfl rfl (by first | (simp [Value.oneCell']; done) | (simp [(hRb.rd).one, (hRc.rd).one]; done) | simp [Value.oneCell', (hRb.rd).one, (hRc.rd).one]) rfl rfl rfl rfl rfl ?_
  refine wl_nil ?_
  refine nx_then ?_
  refine ws_seq ?_
  refine ws_seq ?_
  refine ws_region ?_
  refine wl_x (ox_assign rfl rfl) rfl rfl rfl ?_
  refine wl_nil ?_
  refine nx_then ?_
  refine ws_block ?_
  refine ws_loop (fun n s h' ms' => ∃ (i : Nat), n = 2 - i ∧ s = [(7, .bool true), (8, va), (9, .pointer (some ⟨g9, 0, none⟩)), (10, .int .i64 i)] ∧ h3 = h' ∧ ms' = [Blk g9 28 [vb, vc]] ∧ i ≤ 2)
    (2 - 0) _ ⟨0, rfl, rfl, rfl, rfl, by omega⟩ (by repeat (first | exact trivial | refine ⟨rfl, ?_⟩)) ?_
  rintro n s h' ms' ⟨i, rfl, rfl, rfl, rfl, hi⟩
  refine ws_seq ?_
  refine ws_seq ?_
  refine ws_region ?_
  refine wl_x (ox_move rfl rfl) rfl rfl rfl ?_
  refine wl_x (ox_lss rfl rfl rfl) rfl rfl rfl ?_
  refine wl_nil ?_
  refine nx_then ?_
  refine ws_if rfl (fun hlt => ?_) (fun hlt => ?_)
  · skip
    have hi2 : i < 2 := by omega
    obtain ⟨x, vx, hvx, hRx, lx, bx⟩ : ∃ (x : List Br) (vx : Value), ([vb, vc] : List Value)[i]? = some vx ∧ RdL cBr 6 h3 [] vx x ∧ x.length ≤ 28 ∧ ∀ b ∈ x, Bd 2000010 b := by
      rcases (by omega : i = 0 ∨ i = 1) with rfl | rfl
      · exact ⟨b, vb, rfl, hRb, by omega, fun y hy => by obtain ⟨g1, g2, g3, g4, g5, g6⟩ := bb y hy; exact ⟨by omega, by omega, by omega, by omega, g5, g6⟩⟩
      · exact ⟨c, vc, rfl, hRc, by omega, bc⟩
    have hA : ∀ b ∈ a, BOk b := fun y hy => (ba y hy).ok (by omega)
    have hX : ∀ b ∈ x, BOk b := fun y hy => (bx y hy).ok (by omega)
    refine ws_skip ?_
    refine nx_then ?_
    refine ws_seq ?_
    refine ws_block ?_
    refine ws_seq ?_
    refine ws_region ?_
    refine wl_x (ox_assign rfl rfl) rfl rfl rfl ?_
    refine wl_nil ?_
    refine nx_then ?_
    refine ws_block ?_
    refine ws_loop (fun n s h' ms' => ∃ (k : Nat) (d : Int), n = 5 - k ∧ s = [(7, .bool true), (8, va), (9, .pointer (some ⟨g9, 0, none⟩)), (10, .int .i64 i), (11, .int .i64 d)] ∧ h3 = h' ∧ ms' = [Blk g9 28 [vb, vc]] ∧ k ≤ 5 ∧ d = (k : Int) - 1)
      (5 - 0) _ ⟨0, -1, rfl, rfl, rfl, rfl, by omega, by omega⟩ (by repeat (first | exact trivial | refine ⟨rfl, ?_⟩)) ?_
    rintro n s h' ms' ⟨k, d, rfl, rfl, rfl, rfl, hk, hd⟩
    refine ws_seq ?_
    refine ws_seq ?_
    refine ws_region ?_
    refine wl_x (ox_move rfl rfl) rfl rfl rfl ?_
    refine wl_x (ox_lss rfl rfl rfl) rfl rfl rfl ?_
    refine wl_nil ?_
    refine nx_then ?_
    refine ws_if rfl (fun hlt5 => ?_) (fun hlt5 => ?_)
    · skip
      have hcell : Cell h3 [Blk g9 28 [vb, vc]] ((⟨g9, 0, none⟩ : Addr).add (i * 1)) vx := by rw [Nat.mul_one]; exact Cell.blk 0 rfl hvx
      refine ws_skip ?_
      refine nx_then ?_
      refine ws_seq ?_
      refine ws_block ?_
      refine ws_seq ?_
      refine ws_region ?_
      refine wl_x (ox_move rfl rfl) rfl rfl rfl ?_
      refine wl_x (ox_move rfl rfl) rfl rfl rfl ?_
      refine wl_x (ox_indexA _ rfl Try.underlying28 el25 rfl rfl rfl (by omega)) rfl rfl rfl ?_
      refine wl_x (ox_load rfl Try.underlying25 rfl rfl (by first | exact Cell.blk 0 rfl rfl | exact Cell.blk 1 rfl rfl | exact Cell.blk 2 rfl rfl | exact Cell.blk 3 rfl rfl | exact Cell.blk 4 rfl rfl | exact hcell)) rfl rfl rfl ?_
      refine wl_x (ox_move rfl rfl) rfl rfl rfl ?_
      refine wl_x (ox_call rfl Try.call12 rfl (distance_v a x va vx d h3 hRa hRx (by omega) (by omega) hA hX _)) rfl rfl rfl ?_
      refine wl_x (ox_move rfl rfl) rfl rfl rfl ?_
      refine wl_x (ox_extract rfl rfl rfl) rfl rfl rfl ?_
      refine wl_x (ox_extract rfl rfl rfl) rfl rfl rfl ?_
      refine wl_x (ox_assign rfl rfl) rfl rfl rfl ?_
      refine wl_x (ox_assign rfl rfl) rfl rfl rfl ?_
      refine wl_nil ?_
      refine nx_then ?_
      refine ws_seq ?_
      refine ws_region ?_
      refine wl_x (ox_move rfl rfl) rfl rfl rfl ?_
      refine wl_x (ox_move rfl rfl) rfl rfl rfl ?_
      refine wl_x (ox_indexA _ rfl Try.underlying28 el25 rfl rfl rfl (by omega)) rfl rfl rfl ?_
      refine wl_x (ox_load rfl Try.underlying25 rfl rfl (by first | exact Cell.blk 0 rfl rfl | exact Cell.blk 1 rfl rfl | exact Cell.blk 2 rfl rfl | exact Cell.blk 3 rfl rfl | exact Cell.blk 4 rfl rfl | exact hcell)) rfl rfl rfl ?_
      refine wl_x (ox_move rfl rfl) rfl rfl rfl ?_
      refine wl_x (ox_call rfl Try.call13 rfl (rdistance_v a x va vx d h3 hRa hRx (by omega) (by omega) hA hX _)) rfl rfl rfl ?_
      refine wl_x (ox_move rfl rfl) rfl rfl rfl ?_
      refine wl_x (ox_extract rfl rfl rfl) rfl rfl rfl ?_
      refine wl_x (ox_extract rfl rfl rfl) rfl rfl rfl ?_
      refine wl_x (ox_assign rfl rfl) rfl rfl rfl ?_
      refine wl_x (ox_assign rfl rfl) rfl rfl rfl ?_
      refine wl_nil ?_
      refine nx_then ?_
      refine ws_seq ?_
      refine ws_region ?_
      refine wl_x (ox_move rfl rfl) rfl rfl rfl ?_
      refine wl_x (ox_move rfl rfl) rfl rfl rfl ?_
      refine wl_x (ox_nei rfl rfl rfl) rfl rfl rfl ?_
      refine wl_x (ox_move rfl rfl) rfl rfl rfl ?_
      refine wl_split (t := 54) rfl (fun hs => absurd hs (by simp)) (fun hs => ?_)
      refine wl_gx (ox_move rfl rfl) rfl rfl rfl rfl rfl rfl ?_
      refine wl_gx (ox_move rfl rfl) rfl rfl rfl rfl rfl rfl ?_
      refine wl_gx (ox_neb rfl Try.underlying4 rfl rfl) rfl rfl rfl rfl rfl rfl ?_
      refine wl_x (ox_pick_f rfl rfl rfl) rfl rfl rfl ?_
      refine wl_nil ?_
      refine nx_then ?_
      refine ws_cond rfl (fun hc => ?_) (fun hc => ?_)
      · skip
        simp at hc
      · skip
        refine ws_skip ?_
        refine nx_block ?_
        refine nx_then ?_
        refine ws_region ?_
        refine wl_x (ox_move rfl rfl) rfl rfl rfl ?_
        refine wl_x (ox_add rfl rfl rfl (by omega)) rfl rfl rfl ?_
        refine wl_x (ox_assign rfl rfl) rfl rfl rfl ?_
        refine wl_nil ?_
        refine nx_round (5 - (k + 1)) _ (by omega) ⟨k + 1, d + 1, rfl, rfl, rfl, rfl, by omega, by omega⟩ (by repeat (first | exact trivial | refine ⟨rfl, ?_⟩))
    · skip
      refine ws_exit ?_
      refine nx_then_exit ?_
      refine nx_then_exit ?_
      refine nx_block_exit ?_
      refine nx_block ?_
      refine nx_then ?_
      refine ws_region ?_
      refine wl_x (ox_move rfl rfl) rfl rfl rfl ?_
      refine wl_x (ox_add rfl rfl rfl (by omega)) rfl rfl rfl ?_
      refine wl_x (ox_assign rfl rfl) rfl rfl rfl ?_
      refine wl_nil ?_
      refine nx_round (2 - (i + 1)) _ (by omega) ⟨i + 1, rfl, rfl, rfl, rfl, by omega⟩ (by repeat (first | exact trivial | refine ⟨rfl, ?_⟩))
  · skip
    refine ws_exit ?_
    refine nx_then_exit ?_
    refine nx_then_exit ?_
    refine nx_block_exit ?_
    refine nx_then ?_
    refine ws_seq ?_
    refine ws_region ?_
    refine wl_x (ox_move rfl rfl) rfl rfl rfl ?_
    refine wl_x (ox_assign rfl rfl) rfl rfl rfl ?_
    refine wl_nil ?_
    refine nx_then ?_
    refine ws_ret ?_
    exact nx_ret1 rfl rfl (rfl)
end Go.Proofs.Ythdkhnjnhhofgaa
