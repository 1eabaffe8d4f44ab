/- The distance as a function; the law's far; counts. -/
import Derived.Test.YthdkhnjnhhofgaaWo
set_option linter.unusedSimpArgs false
set_option linter.unusedVariables false
set_option maxRecDepth 100000
namespace Go.Proofs.Ythdkhnjnhhofgaa
open Go.Eng Go.RowKit Go.Kuhn

theorem IsDist.unique {p q : List Br} {L d e : Int} (h : IsDist p q L d) (h' : IsDist p q L e) : d = e := by
  obtain ⟨a1, a2, a3, a4⟩ := h
  obtain ⟨b1, b2, b3, b4⟩ := h'
  have := a4 e b1 b2 b3
  have := b4 d a1 a2 a3
  omega
theorem min_mem : ∀ l : List Int, l ≠ [] → ∃ M ∈ l, ∀ c ∈ l, M ≤ c
  | [], h => absurd rfl h
  | [a], _ => ⟨a, by simp, by simp⟩
  | a :: b :: l, _ => by
    obtain ⟨M, h1, h2⟩ := min_mem (b :: l) (by simp)
    rcases Int.le_total M a with h | h
    · exact ⟨M, by simp [h1], fun c hc => by
        rcases List.mem_cons.1 hc with rfl | hc
        · exact h
        · exact h2 c hc⟩
    · exact ⟨a, by simp, fun c hc => by
        rcases List.mem_cons.1 hc with rfl | hc
        · exact Int.le_refl _
        · have := h2 c hc; omega⟩
theorem exists_isDist (p q : List Br) (L : Int) : ∃ d, IsDist p q L d := by
  classical
  obtain ⟨cl1, cl2⟩ := costs_len p q L
  have hLC : L ∈ costsOf p q L := by unfold costsOf; simp
  obtain ⟨M, hMC, hM⟩ : ∃ M ∈ costsOf p q L, ∀ c ∈ costsOf p q L, c ≤ M := max_mem _ (List.ne_nil_of_mem hLC)
  have hlast : Pos (fitsD p q M) (p.length + q.length) := pos_max p q _ (fun b hb => hM _ (cl1 b hb)) (fun b hb => hM _ (cl2 b hb))
  obtain ⟨d, h1, h2⟩ := min_mem ((costsOf p q L).filter fun c => decide (L ≤ c ∧ Pos (fitsD p q c) (p.length + q.length))) (List.ne_nil_of_mem (List.mem_filter.2 ⟨hMC, by simpa using ⟨hM _ hLC, hlast⟩⟩))
  obtain ⟨h3, h4⟩ := List.mem_filter.1 h1
  have h4 := of_decide_eq_true h4
  exact ⟨d, h3, h4.1, h4.2, fun c hc h5 h6 => h2 c (List.mem_filter.2 ⟨hc, by simpa using ⟨h5, h6⟩⟩)⟩
/-- The least of the costs that serve. -/
noncomputable def dd (p q : List Br) (L : Int) : Int := (exists_isDist p q L).choose
theorem dd_is (p q : List Br) (L : Int) : IsDist p q L (dd p q L) := (exists_isDist p q L).choose_spec
/-- Twice the distance of two diagrams in a dimension, and whether there is one. -/
noncomputable def dist2 (dim : Int) (a b : List Br) : Int × Bool :=
  if (birthsOf dim a).length = (birthsOf dim b).length then (dd (a.filter (Br.finIn dim)) (b.filter (Br.finIn dim)) (leastOf ((birthsOf dim a).zip (birthsOf dim b))), true) else (0, false)
theorem dist2_of {dim : Int} {la lb : List Br} {d : Int} {e : Bool} (h1 : (birthsOf dim la).length ≠ (birthsOf dim lb).length → d = 0 ∧ e = false) (h2 : (birthsOf dim la).length = (birthsOf dim lb).length → e = true ∧ IsDist (la.filter (Br.finIn dim)) (lb.filter (Br.finIn dim)) (leastOf ((birthsOf dim la).zip (birthsOf dim lb))) d) : dist2 dim la lb = (d, e) := by
  unfold dist2
  split
  · rename_i h
    obtain ⟨rfl, h3⟩ := h2 h
    rw [h3.unique (dd_is _ _ _)]
  · rename_i h
    obtain ⟨rfl, rfl⟩ := h1 h
    rfl
theorem dist2_bd {la lb : List Br} (dim : Int) (hA : ∀ b ∈ la, BOk b) (hB : ∀ b ∈ lb, BOk b) : 0 ≤ (dist2 dim la lb).1 ∧ (dist2 dim la lb).1 ≤ 8000000000000 := by
  unfold dist2
  split
  · have hX := birthsOf_bd dim la hA
    have hY := birthsOf_bd dim lb hB
    have hL := leastOf_bd ((birthsOf dim la).zip (birthsOf dim lb)) fun p hp => by
      have h1 := hX _ (List.of_mem_zip hp).1
      have h2 := hY _ (List.of_mem_zip hp).2
      unfold iabs; omega
    obtain ⟨h1, h2, _, _⟩ := dd_is (la.filter (Br.finIn dim)) (lb.filter (Br.finIn dim)) (leastOf ((birthsOf dim la).zip (birthsOf dim lb)))
    refine ⟨by show 0 ≤ dd _ _ _; omega, ?_⟩
    show dd _ _ _ ≤ _
    generalize dd (la.filter (Br.finIn dim)) (lb.filter (Br.finIn dim)) (leastOf ((birthsOf dim la).zip (birthsOf dim lb))) = d at *
    have hp : ∀ b ∈ la.filter (Br.finIn dim), BOk b := fun b hb => hA b (List.mem_filter.1 hb).1
    have hq : ∀ b ∈ lb.filter (Br.finIn dim), BOk b := fun b hb => hB b (List.mem_filter.1 hb).1
    unfold costsOf at h1
    rcases List.mem_append.1 h1 with h1 | h1
    · rcases List.mem_cons.1 h1 with rfl | h1
      · omega
      · obtain ⟨x, hx, h1⟩ := List.mem_flatMap.1 h1
        have b1 := hp x hx
        rcases List.mem_cons.1 h1 with rfl | h1
        · have := len_bd b1; omega
        · obtain ⟨y, hy, rfl⟩ := List.mem_map.1 h1
          obtain ⟨a1, a2, a3, a4⟩ := b1
          obtain ⟨c1, c2, c3, c4⟩ := hq y hy
          unfold Br.apart iabs; omega
    · obtain ⟨y, hy, rfl⟩ := List.mem_map.1 h1
      have := len_bd (hq y hy); omega
  · simp
section
variable (la lb : List Br) (va vb : Value) (dim : Int) (h : Hp) (hRa : RdL cBr 6 h [] va la) (hRb : RdL cBr 6 h [] vb lb) (hla : la.length ≤ 10000) (hlb : lb.length ≤ 10000) (hA : ∀ b ∈ la, BOk b) (hB : ∀ b ∈ lb, BOk b) (ms : List Hp)
include hRa hRb hla hlb hA hB
theorem distance_v : FnV Try.prog 12 #[va, vb, .int .i64 dim] h ms (.tuple #[.int .i64 (dist2 dim la lb).1, .bool (dist2 dim la lb).2]) := by
  refine fun w hw => (?_ : FnV _ _ _ h [] _) w (hw.weaken (Hp.le_refl _) (List.nil_sublist _))
  refine FnT.toV (FnT.mono (distance_ok la lb va vb dim h hRa hRb hla hlb hA hB) ?_)
  rintro r h' ms' ⟨d, e, rfl, h1, h2⟩
  rw [dist2_of h1 h2]
theorem rdistance_v : FnV Try.prog 13 #[va, vb, .int .i64 dim] h ms (.tuple #[.int .i64 (dist2 dim la lb).1, .bool (dist2 dim la lb).2]) := by
  refine fun w hw => (?_ : FnV _ _ _ h [] _) w (hw.weaken (Hp.le_refl _) (List.nil_sublist _))
  refine FnT.toV (FnT.mono (rdistance_ok la lb va vb dim h hRa hRb hla hlb hA hB) ?_)
  rintro r h' ms' ⟨d, e, rfl, h1, h2⟩
  rw [dist2_of h1 h2]
theorem far_true (want : Int) (hd : dist2 1 la lb = (want, true)) : FnV Try.prog 16 #[va, vb, .int .i64 want] h ms (.bool true) := by
  refine fun w hw => (?_ : FnV _ _ _ h [] _) w (hw.weaken (Hp.le_refl _) (List.nil_sublist _))
  refine FnT.toV ?_
  refine fn_enter Try.func16 Try.ntmps16 rfl rfl (fun w0 hw0 => ?_)
  simp only [argS]
  refine ws_seq ?_
  refine ws_region ?_
  refine wl_x (ox_assign rfl rfl) rfl rfl rfl ?_
  refine wl_nil ?_
  refine nx_then ?_
  refine ws_seq ?_
  refine ws_region ?_
  refine wl_x (ox_move rfl rfl) rfl rfl rfl ?_
  refine wl_x (ox_move rfl rfl) rfl rfl rfl ?_
  refine wl_x (ox_call rfl Try.call12 rfl (distance_v la lb va vb 1 h hRa hRb hla hlb hA hB _)) rfl rfl rfl ?_
  rw [hd]
  refine wl_x (ox_move rfl rfl) rfl rfl rfl ?_
  refine wl_x (ox_extract rfl rfl rfl) rfl rfl rfl ?_
  refine wl_x (ox_extract rfl rfl rfl) rfl rfl rfl ?_
  refine wl_x (ox_assign rfl rfl) rfl rfl rfl ?_
  refine wl_x (ox_assign rfl rfl) rfl rfl rfl ?_
  refine wl_nil ?_
  refine nx_then ?_
  refine ws_seq ?_
  refine ws_region ?_
  refine wl_x (ox_move rfl rfl) rfl rfl rfl ?_
  refine wl_x (ox_move rfl rfl) rfl rfl rfl ?_
  refine wl_splitb (t := 16) rfl (fun h1 => ?_) (fun h1 => ?_)
  · skip
    refine wl_gx (ox_move rfl rfl) rfl rfl rfl rfl rfl rfl ?_
    refine wl_gx (ox_move rfl rfl) rfl rfl rfl rfl rfl rfl ?_
    refine wl_gx (ox_eqi rfl rfl rfl) rfl rfl rfl rfl rfl rfl ?_
    refine wl_x (ox_pick_t rfl rfl rfl) rfl rfl rfl ?_
    refine wl_x (ox_assign rfl rfl) rfl rfl rfl ?_
    refine wl_nil ?_
    refine nx_then ?_
    refine ws_ret ?_
    exact nx_ret1 rfl rfl (by simp)
  · skip
    cases h1
end

/-- Does a bar count at a value? -/
def Br.at (dim t : Int) (b : Br) : Bool := decide (b.dim = dim) && decide (b.birth ≤ t) && (b.opn || decide (t < b.death))
theorem at_ok (b : Br) (g1 g2 : Nat) (dim t : Int) (h : Hp) (hD : ∀ ms, Cell h ms ⟨g1, 0, none⟩ (.int .i64 dim)) (hT : ∀ ms, Cell h ms ⟨g2, 0, none⟩ (.int .i64 t)) (ms : List Hp) : FnV Try.prog 45 ([] ++ [Value.agg (cBr b).toArray] ++ [Value.pointer (some ⟨g1, 0, none⟩), Value.pointer (some ⟨g2, 0, none⟩)]).toArray h ms (.bool (b.at dim t)) := by
  refine fun w hw => (?_ : FnV _ _ _ h [] _) w (hw.weaken (Hp.le_refl _) (List.nil_sublist _))
  refine FnT.toV ?_
  show FnT _ _ #[.agg (cBr b).toArray, .pointer (some ⟨g1, 0, none⟩), .pointer (some ⟨g2, 0, none⟩)] _ _ _
  refine fn_enter Try.func45 Try.ntmps45 rfl rfl (fun w0 hw0 => ?_)
  simp only [argS]
  refine ws_seq ?_
  refine ws_region ?_
  refine wl_box [_, _, _, _, _, _] rfl rfl (by first | rfl | exact Rd.cells ‹_› | exact (RdL.rd ‹_›).cells) rfl rfl rfl (fun g3 => ?_)
  refine wl_x (ox_assign rfl rfl) rfl rfl rfl ?_
  refine wl_nil ?_
  refine nx_then ?_
  refine ws_seq ?_
  refine ws_region ?_
  refine wl_x (ox_fieldF fd40_0 rfl rfl) rfl rfl rfl ?_
  refine wl_x (ox_load rfl Try.underlying3 rfl rfl (by first | exact Cell.blk 0 rfl rfl | exact Cell.blk 1 rfl rfl | exact Cell.blk 2 rfl rfl | exact Cell.blk 3 rfl rfl | exact Cell.blk 4 rfl rfl | exact hD _ | exact hT _)) rfl rfl rfl ?_
  refine wl_x (ox_load rfl Try.underlying3 rfl rfl (by first | exact hD _ | exact hT _)) rfl rfl rfl ?_
  refine wl_x (ox_eqi rfl rfl rfl) rfl rfl rfl ?_
  refine wl_x (ox_move rfl rfl) rfl rfl rfl ?_
  refine wl_split (t := 9) rfl (fun h1 => ?_) (fun h1 => ?_)
  · skip
    refine wl_gx (ox_fieldF fd40_1 rfl rfl) rfl rfl rfl rfl rfl rfl ?_
    refine wl_gx (ox_load rfl Try.underlying3 rfl rfl (by first | exact Cell.blk 0 rfl rfl | exact Cell.blk 1 rfl rfl | exact Cell.blk 2 rfl rfl | exact Cell.blk 3 rfl rfl | exact Cell.blk 4 rfl rfl | exact hD _ | exact hT _)) rfl rfl rfl rfl rfl rfl ?_
    refine wl_gx (ox_load rfl Try.underlying3 rfl rfl (by first | exact hD _ | exact hT _)) rfl rfl rfl rfl rfl rfl ?_
    refine wl_gx (ox_leq rfl rfl rfl) rfl rfl rfl rfl rfl rfl ?_
    refine wl_x (ox_pick_t rfl rfl rfl) rfl rfl rfl ?_
    refine wl_x (ox_move rfl rfl) rfl rfl rfl ?_
    refine wl_split (t := 15) rfl (fun h2 => ?_) (fun h2 => ?_)
    · skip
      refine wl_gx (ox_fieldF fd40_3 rfl rfl) rfl rfl rfl rfl rfl rfl ?_
      refine wl_gx (ox_load rfl Try.underlying4 rfl rfl (by first | exact Cell.blk 0 rfl rfl | exact Cell.blk 1 rfl rfl | exact Cell.blk 2 rfl rfl | exact Cell.blk 3 rfl rfl | exact Cell.blk 4 rfl rfl | exact hD _ | exact hT _)) rfl rfl rfl rfl rfl rfl ?_
      refine wl_gx (ox_move rfl rfl) rfl rfl rfl rfl rfl rfl ?_
      refine wl_splitb (t := 18) rfl (fun h3 => ?_) (fun h3 => ?_)
      · skip
        refine wl_skip rfl rfl rfl rfl rfl rfl rfl ?_
        refine wl_skip rfl rfl rfl rfl rfl rfl rfl ?_
        refine wl_skip rfl rfl rfl rfl rfl rfl rfl ?_
        refine wl_skip rfl rfl rfl rfl rfl rfl rfl ?_
        refine wl_gx (ox_pick_t rfl rfl rfl) rfl rfl rfl rfl rfl rfl ?_
        refine wl_x (ox_pick_t rfl rfl rfl) rfl rfl rfl ?_
        refine wl_x (ox_assign rfl rfl) rfl rfl rfl ?_
        refine wl_nil ?_
        refine nx_then ?_
        refine ws_ret ?_
        exact nx_ret1 rfl rfl (by simp [Br.at, h1, h2, h3])
      · skip
        refine wl_gx (ox_fieldF fd40_2 rfl rfl) rfl rfl rfl rfl rfl rfl ?_
        refine wl_gx (ox_load rfl Try.underlying3 rfl rfl (by first | exact Cell.blk 0 rfl rfl | exact Cell.blk 1 rfl rfl | exact Cell.blk 2 rfl rfl | exact Cell.blk 3 rfl rfl | exact Cell.blk 4 rfl rfl | exact hD _ | exact hT _)) rfl rfl rfl rfl rfl rfl ?_
        refine wl_gx (ox_load rfl Try.underlying3 rfl rfl (by first | exact hD _ | exact hT _)) rfl rfl rfl rfl rfl rfl ?_
        refine wl_gx (ox_gtr rfl rfl rfl) rfl rfl rfl rfl rfl rfl ?_
        refine wl_gx (ox_pick_f rfl rfl rfl) rfl rfl rfl rfl rfl rfl ?_
        refine wl_x (ox_pick_t rfl rfl rfl) rfl rfl rfl ?_
        refine wl_x (ox_assign rfl rfl) rfl rfl rfl ?_
        refine wl_nil ?_
        refine nx_then ?_
        refine ws_ret ?_
        exact nx_ret1 rfl rfl (by simp [Br.at, h1, h2, h3])
    · skip
      refine wl_skip rfl rfl rfl rfl rfl rfl rfl ?_
      refine wl_skip rfl rfl rfl rfl rfl rfl rfl ?_
      refine wl_skip rfl rfl rfl rfl rfl rfl rfl ?_
      refine wl_skipu rfl rfl rfl rfl rfl rfl ?_
      refine wl_skipu rfl rfl rfl rfl rfl rfl ?_
      refine wl_skipu rfl rfl rfl rfl rfl rfl ?_
      refine wl_skipu rfl rfl rfl rfl rfl rfl ?_
      refine wl_skip rfl rfl rfl rfl rfl rfl rfl ?_
      refine wl_x (ox_pick_f rfl rfl rfl) rfl rfl rfl ?_
      refine wl_x (ox_assign rfl rfl) rfl rfl rfl ?_
      refine wl_nil ?_
      refine nx_then ?_
      refine ws_ret ?_
      exact nx_ret1 rfl rfl (by simp [Br.at, h1, h2])
  · skip
    refine wl_skip rfl rfl rfl rfl rfl rfl rfl ?_
    refine wl_skip rfl rfl rfl rfl rfl rfl rfl ?_
    refine wl_skip rfl rfl rfl rfl rfl rfl rfl ?_
    refine wl_skip rfl rfl rfl rfl rfl rfl rfl ?_
    refine wl_x (ox_pick_f rfl rfl rfl) rfl rfl rfl ?_
    refine wl_x (ox_move rfl rfl) rfl rfl rfl ?_
    refine wl_skip rfl rfl rfl rfl rfl rfl rfl ?_
    refine wl_skip rfl rfl rfl rfl rfl rfl rfl ?_
    refine wl_skip rfl rfl rfl rfl rfl rfl rfl ?_
    refine wl_skipu rfl rfl rfl rfl rfl rfl ?_
    refine wl_skipu rfl rfl rfl rfl rfl rfl ?_
    refine wl_skipu rfl rfl rfl rfl rfl rfl ?_
    refine wl_skipu rfl rfl rfl rfl rfl rfl ?_
    refine wl_skip rfl rfl rfl rfl rfl rfl rfl ?_
    refine wl_x (ox_pick_f rfl rfl rfl) rfl rfl rfl ?_
    refine wl_x (ox_assign rfl rfl) rfl rfl rfl ?_
    refine wl_nil ?_
    refine nx_then ?_
    refine ws_ret ?_
    exact nx_ret1 rfl rfl (by simp [Br.at, h1])
theorem count_ok (l : List Br) (vl : Value) (dim t : Int) (h : Hp) (hR : RdL cBr 6 h [] vl l) (hl : l.length ≤ 1000000) (ms : List Hp) :
    FnV Try.prog 20 #[vl, .int .i64 dim, .int .i64 t] h ms (.int .i64 (l.filter (Br.at dim t)).length) := by
  refine fun w hw => (?_ : FnV _ _ _ h [] _) w (hw.weaken (Hp.le_refl _) (List.nil_sublist _))
  refine FnT.toV ?_
  refine fn_enter Try.func20 Try.ntmps20 rfl rfl (fun w0 hw0 => ?_)
  simp only [argS]
  refine ws_seq ?_
  refine ws_region ?_
  refine wl_box [_] rfl rfl (by first | rfl | exact Rd.cells ‹_› | exact (RdL.rd ‹_›).cells) rfl rfl rfl (fun g4 => ?_)
  refine wl_box [_] rfl rfl (by first | rfl | exact Rd.cells ‹_› | exact (RdL.rd ‹_›).cells) rfl rfl rfl (fun g5 => ?_)
  refine wl_freezeI 0 rfl (fun h1 l1 s1 => ?_)
  refine wl_freezeI 0 rfl (fun h2 l2 s2 => ?_)
  have c5 : Cell h2 [] ⟨g5, 0, none⟩ (.int .i64 t) := (s1.at0 rfl).le l2
  have c4 : Cell h2 [] ⟨g4, 0, none⟩ (.int .i64 dim) := s2.at0 rfl
  have hR := hR.up (Hp.le_trans l1 l2)
  try simp only [List.eraseIdx_cons_zero, List.eraseIdx_cons_succ]
  refine wl_x (ox_assign rfl rfl) rfl rfl rfl ?_
  refine wl_nil ?_
  refine nx_then ?_
  refine ws_seq ?_
  refine ws_region ?_
  refine wl_x (ox_move rfl rfl) rfl rfl rfl ?_
  refine wl_x (ox_makeFunc rfl rfl rfl) rfl rfl rfl ?_
  refine wl_call rfl Try.call26 rfl (filtered_ok l vl 45 [Value.pointer (some ⟨g4, 0, none⟩), Value.pointer (some ⟨g5, 0, none⟩)] (Br.at dim t) h2 hR (by omega) Try.call45 (fun b _ ms => at_ok b g4 g5 dim t h2 (fun _ => c4.any) (fun _ => c5.any) ms)) rfl rfl rfl (fun vp h3 _ l3 hL => ?_)
  obtain ⟨rfl, hRp⟩ := hL
  first | refine wl_x (ox_len (ty := 25) rfl Try.underlying25 rfl) rfl rfl rfl ?_ | refine wl_x (ox_lenR hRp.rd.any rfl Try.underlying25 rfl) rfl rfl rfl ?_
  refine wl_x (ox_assign rfl rfl) rfl rfl rfl ?_
  refine wl_nil ?_
  refine nx_then ?_
  refine ws_ret ?_
  exact nx_ret1 rfl rfl (rfl)
theorem take_filter_len {α : Type} (l : List α) (p : α → Bool) (k : Nat) (hk : k < l.length) : ((l.take (k + 1)).filter p).length = ((l.take k).filter p).length + if p l[k] then 1 else 0 := by
  rw [List.take_succ_eq_append_getElem hk, List.filter_append, List.length_append]
  congr 1
  cases h : p l[k] <;> simp [h]
theorem rcount_ok (l : List Br) (vl : Value) (dim t : Int) (h : Hp) (hR : RdL cBr 6 h [] vl l) (hl : l.length ≤ 1000000) (ms : List Hp) :
    FnV Try.prog 21 #[vl, .int .i64 dim, .int .i64 t] h ms (.int .i64 (l.filter (Br.at dim t)).length) := by
  refine fun w hw => (?_ : FnV _ _ _ h [] _) w (hw.weaken (Hp.le_refl _) (List.nil_sublist _))
  refine FnT.toV ?_
  refine fn_enter Try.func21 Try.ntmps21 rfl rfl (fun w0 hw0 => ?_)
  simp only [argS]
  refine ws_seq ?_
  refine ws_region ?_
  refine wl_x (ox_assign rfl rfl) rfl rfl rfl ?_
  refine wl_nil ?_
  refine nx_then ?_
  refine ws_seq ?_
  refine ws_region ?_
  refine wl_x (ox_assign rfl rfl) rfl rfl rfl ?_
  refine wl_nil ?_
  refine nx_then ?_
  refine ws_seq ?_
  refine ws_seq ?_
  refine ws_region ?_
  refine wl_x (ox_assign rfl rfl) rfl rfl rfl ?_
  refine wl_nil ?_
  refine nx_then ?_
  refine ws_block ?_
  refine ws_loop (fun n s h' ms' => ∃ (k : Nat) (c : Int), n = l.length - k ∧ s = [(0, vl), (1, .int .i64 dim), (2, .int .i64 t), (7, .int .i64 c), (8, .int .i64 k)] ∧ h' = h ∧ ms' = [] ∧ k ≤ l.length ∧ c = ((l.take k).filter (Br.at dim t)).length)
    (l.length - 0) _ ⟨0, 0, rfl, rfl, rfl, rfl, by omega, rfl⟩ (by repeat (first | exact trivial | refine ⟨rfl, ?_⟩)) ?_
  rintro n s h' ms' ⟨k, c, rfl, rfl, rfl, rfl, hk, hc⟩
  refine ws_seq ?_
  refine ws_seq ?_
  refine ws_region ?_
  refine wl_x (ox_move rfl rfl) rfl rfl rfl ?_
  refine wl_x (ox_move rfl rfl) rfl rfl rfl ?_
  first | refine wl_x (ox_len (ty := 25) rfl Try.underlying25 rfl) rfl rfl rfl ?_ | refine wl_x (ox_lenR hR.rd.any rfl Try.underlying25 rfl) rfl rfl rfl ?_
  refine wl_x (ox_lss rfl rfl rfl) rfl rfl rfl ?_
  refine wl_nil ?_
  refine nx_then ?_
  refine ws_if rfl (fun hlt => ?_) (fun hlt => ?_)
  · skip
    have hkl : k < l.length := by omega
    have hts := take_filter_len l (Br.at dim t) k hkl
    have hle : ((l.take k).filter (Br.at dim t)).length ≤ (l.take k).length := List.length_filter_le _ _
    have hle2 : (l.take k).length ≤ k := List.length_take_le _ _
    refine ws_skip ?_
    refine nx_then ?_
    refine ws_seq ?_
    refine ws_block ?_
    refine ws_seq ?_
    refine ws_region ?_
    refine wl_x (ox_move rfl rfl) rfl rfl rfl ?_
    refine wl_x (ox_move rfl rfl) rfl rfl rfl ?_
    first | refine wl_x (ox_index _ rfl Try.underlying25 el40 rfl rfl rfl (by omega)) rfl rfl rfl ?_ | refine wl_x (ox_indexR _ hR.rd.any rfl Try.underlying25 el40 rfl rfl rfl (by omega)) rfl rfl rfl ?_
    refine wl_x (ox_fieldF fd40_0 rfl rfl) rfl rfl rfl ?_
    refine wl_x (ox_load rfl Try.underlying3 rfl rfl (by first | exact hR.cell hkl rfl)) rfl rfl rfl ?_
    refine wl_x (ox_move rfl rfl) rfl rfl rfl ?_
    refine wl_x (ox_eqi rfl rfl rfl) rfl rfl rfl ?_
    refine wl_x (ox_move rfl rfl) rfl rfl rfl ?_
    refine wl_split (t := 22) rfl (fun h1 => ?_) (fun h1 => ?_)
    · skip
      refine wl_gx (ox_move rfl rfl) rfl rfl rfl rfl rfl rfl ?_
      refine wl_gx (ox_move rfl rfl) rfl rfl rfl rfl rfl rfl ?_
      first | refine wl_gx (ox_index _ rfl Try.underlying25 el40 rfl rfl rfl (by omega)) rfl rfl rfl rfl rfl rfl ?_ | refine wl_gx (ox_indexR _ hR.rd.any rfl Try.underlying25 el40 rfl rfl rfl (by omega)) rfl rfl rfl rfl rfl rfl ?_
      refine wl_gx (ox_fieldF fd40_1 rfl rfl) rfl rfl rfl rfl rfl rfl ?_
      refine wl_gx (ox_load rfl Try.underlying3 rfl rfl (by first | exact hR.cell hkl rfl)) rfl rfl rfl rfl rfl rfl ?_
      refine wl_gx (ox_move rfl rfl) rfl rfl rfl rfl rfl rfl ?_
      refine wl_gx (ox_leq rfl rfl rfl) rfl rfl rfl rfl rfl rfl ?_
      refine wl_x (ox_pick_t rfl rfl rfl) rfl rfl rfl ?_
      refine wl_x (ox_move rfl rfl) rfl rfl rfl ?_
      refine wl_split (t := 31) rfl (fun h2 => ?_) (fun h2 => ?_)
      · skip
        refine wl_gx (ox_move rfl rfl) rfl rfl rfl rfl rfl rfl ?_
        refine wl_gx (ox_move rfl rfl) rfl rfl rfl rfl rfl rfl ?_
        first | refine wl_gx (ox_index _ rfl Try.underlying25 el40 rfl rfl rfl (by omega)) rfl rfl rfl rfl rfl rfl ?_ | refine wl_gx (ox_indexR _ hR.rd.any rfl Try.underlying25 el40 rfl rfl rfl (by omega)) rfl rfl rfl rfl rfl rfl ?_
        refine wl_gx (ox_fieldF fd40_3 rfl rfl) rfl rfl rfl rfl rfl rfl ?_
        refine wl_gx (ox_load rfl Try.underlying4 rfl rfl (by first | exact hR.cell hkl rfl)) rfl rfl rfl rfl rfl rfl ?_
        refine wl_gx (ox_move rfl rfl) rfl rfl rfl rfl rfl rfl ?_
        refine wl_splitb (t := 37) rfl (fun h3 => ?_) (fun h3 => ?_)
        · skip
          refine wl_skip rfl rfl rfl rfl rfl rfl rfl ?_
          refine wl_skip rfl rfl rfl rfl rfl rfl rfl ?_
          refine wl_skip rfl rfl rfl rfl rfl rfl rfl ?_
          refine wl_skip rfl rfl rfl rfl rfl rfl rfl ?_
          refine wl_skip rfl rfl rfl rfl rfl rfl rfl ?_
          refine wl_skip rfl rfl rfl rfl rfl rfl rfl ?_
          refine wl_skip rfl rfl rfl rfl rfl rfl rfl ?_
          refine wl_gx (ox_pick_t rfl rfl rfl) rfl rfl rfl rfl rfl rfl ?_
          refine wl_x (ox_pick_t rfl rfl rfl) rfl rfl rfl ?_
          refine wl_nil ?_
          refine nx_then ?_
          refine ws_cond_t rfl ?_
          refine ws_region ?_
          refine wl_x (ox_move rfl rfl) rfl rfl rfl ?_
          refine wl_x (ox_add rfl rfl rfl (by omega)) rfl rfl rfl ?_
          refine wl_x (ox_assign rfl rfl) rfl rfl rfl ?_
          refine wl_nil ?_
          refine nx_block ?_
          refine nx_then ?_
          refine ws_region ?_
          refine wl_x (ox_move rfl rfl) rfl rfl rfl ?_
          refine wl_x (ox_add rfl rfl rfl (by omega)) rfl rfl rfl ?_
          refine wl_x (ox_assign rfl rfl) rfl rfl rfl ?_
          refine wl_nil ?_
          refine nx_round (l.length - (k + 1)) _ (by omega) ⟨k + 1, c + 1, rfl, rfl, rfl, rfl, by omega, by rw [hts, hc]; simp [Br.at, h1, h2, h3]⟩ (by repeat (first | exact trivial | refine ⟨rfl, ?_⟩))
        · skip
          refine wl_gx (ox_move rfl rfl) rfl rfl rfl rfl rfl rfl ?_
          refine wl_gx (ox_move rfl rfl) rfl rfl rfl rfl rfl rfl ?_
          first | refine wl_gx (ox_index _ rfl Try.underlying25 el40 rfl rfl rfl (by omega)) rfl rfl rfl rfl rfl rfl ?_ | refine wl_gx (ox_indexR _ hR.rd.any rfl Try.underlying25 el40 rfl rfl rfl (by omega)) rfl rfl rfl rfl rfl rfl ?_
          refine wl_gx (ox_fieldF fd40_2 rfl rfl) rfl rfl rfl rfl rfl rfl ?_
          refine wl_gx (ox_load rfl Try.underlying3 rfl rfl (by first | exact hR.cell hkl rfl)) rfl rfl rfl rfl rfl rfl ?_
          refine wl_gx (ox_move rfl rfl) rfl rfl rfl rfl rfl rfl ?_
          refine wl_gx (ox_gtr rfl rfl rfl) rfl rfl rfl rfl rfl rfl ?_
          refine wl_gx (ox_pick_f rfl rfl rfl) rfl rfl rfl rfl rfl rfl ?_
          refine wl_x (ox_pick_t rfl rfl rfl) rfl rfl rfl ?_
          refine wl_nil ?_
          refine nx_then ?_
          refine ws_if rfl (fun h4 => ?_) (fun h4 => ?_)
          · skip
            refine ws_region ?_
            refine wl_x (ox_move rfl rfl) rfl rfl rfl ?_
            refine wl_x (ox_add rfl rfl rfl (by omega)) rfl rfl rfl ?_
            refine wl_x (ox_assign rfl rfl) rfl rfl rfl ?_
            refine wl_nil ?_
            refine nx_block ?_
            refine nx_then ?_
            refine ws_region ?_
            refine wl_x (ox_move rfl rfl) rfl rfl rfl ?_
            refine wl_x (ox_add rfl rfl rfl (by omega)) rfl rfl rfl ?_
            refine wl_x (ox_assign rfl rfl) rfl rfl rfl ?_
            refine wl_nil ?_
            refine nx_round (l.length - (k + 1)) _ (by omega) ⟨k + 1, c + 1, rfl, rfl, rfl, rfl, by omega, by rw [hts, hc]; simp [Br.at, h1, h2, h3, h4]⟩ (by repeat (first | exact trivial | refine ⟨rfl, ?_⟩))
          · skip
            have h4 : ¬ t < l[k].death := by omega
            refine ws_skip ?_
            refine nx_block ?_
            refine nx_then ?_
            refine ws_region ?_
            refine wl_x (ox_move rfl rfl) rfl rfl rfl ?_
            refine wl_x (ox_add rfl rfl rfl (by omega)) rfl rfl rfl ?_
            refine wl_x (ox_assign rfl rfl) rfl rfl rfl ?_
            refine wl_nil ?_
            refine nx_round (l.length - (k + 1)) _ (by omega) ⟨k + 1, c, rfl, rfl, rfl, rfl, by omega, by rw [hts, hc]; simp [Br.at, h1, h2, h3, h4]⟩ (by repeat (first | exact trivial | refine ⟨rfl, ?_⟩))
      · skip
        refine wl_skip rfl rfl rfl rfl rfl rfl rfl ?_
        refine wl_skip rfl rfl rfl rfl rfl rfl rfl ?_
        refine wl_skip rfl rfl rfl rfl rfl rfl rfl ?_
        refine wl_skip rfl rfl rfl rfl rfl rfl rfl ?_
        refine wl_skip rfl rfl rfl rfl rfl rfl rfl ?_
        refine wl_skip rfl rfl rfl rfl rfl rfl rfl ?_
        refine wl_skipu rfl rfl rfl rfl rfl rfl ?_
        refine wl_skipu rfl rfl rfl rfl rfl rfl ?_
        refine wl_skipu rfl rfl rfl rfl rfl rfl ?_
        refine wl_skipu rfl rfl rfl rfl rfl rfl ?_
        refine wl_skipu rfl rfl rfl rfl rfl rfl ?_
        refine wl_skipu rfl rfl rfl rfl rfl rfl ?_
        refine wl_skipu rfl rfl rfl rfl rfl rfl ?_
        refine wl_skip rfl rfl rfl rfl rfl rfl rfl ?_
        refine wl_x (ox_pick_f rfl rfl rfl) rfl rfl rfl ?_
        refine wl_nil ?_
        refine nx_then ?_
        refine ws_cond_f rfl ?_
        refine ws_skip ?_
        refine nx_block ?_
        refine nx_then ?_
        refine ws_region ?_
        refine wl_x (ox_move rfl rfl) rfl rfl rfl ?_
        refine wl_x (ox_add rfl rfl rfl (by omega)) rfl rfl rfl ?_
        refine wl_x (ox_assign rfl rfl) rfl rfl rfl ?_
        refine wl_nil ?_
        refine nx_round (l.length - (k + 1)) _ (by omega) ⟨k + 1, c, rfl, rfl, rfl, rfl, by omega, by rw [hts, hc]; simp [Br.at, h1, h2]⟩ (by repeat (first | exact trivial | refine ⟨rfl, ?_⟩))
    · skip
      refine wl_skip rfl rfl rfl rfl rfl rfl rfl ?_
      refine wl_skip rfl rfl rfl rfl rfl rfl rfl ?_
      refine wl_skip rfl rfl rfl rfl rfl rfl rfl ?_
      refine wl_skip rfl rfl rfl rfl rfl rfl rfl ?_
      refine wl_skip rfl rfl rfl rfl rfl rfl rfl ?_
      refine wl_skip rfl rfl rfl rfl rfl rfl rfl ?_
      refine wl_skip rfl rfl rfl rfl rfl rfl rfl ?_
      refine wl_x (ox_pick_f rfl rfl rfl) rfl rfl rfl ?_
      refine wl_x (ox_move rfl rfl) rfl rfl rfl ?_
      refine wl_skip rfl rfl rfl rfl rfl rfl rfl ?_
      refine wl_skip rfl rfl rfl rfl rfl rfl rfl ?_
      refine wl_skip rfl rfl rfl rfl rfl rfl rfl ?_
      refine wl_skip rfl rfl rfl rfl rfl rfl rfl ?_
      refine wl_skip rfl rfl rfl rfl rfl rfl rfl ?_
      refine wl_skip rfl rfl rfl rfl rfl rfl rfl ?_
      refine wl_skipu rfl rfl rfl rfl rfl rfl ?_
      refine wl_skipu rfl rfl rfl rfl rfl rfl ?_
      refine wl_skipu rfl rfl rfl rfl rfl rfl ?_
      refine wl_skipu rfl rfl rfl rfl rfl rfl ?_
      refine wl_skipu rfl rfl rfl rfl rfl rfl ?_
      refine wl_skipu rfl rfl rfl rfl rfl rfl ?_
      refine wl_skipu rfl rfl rfl rfl rfl rfl ?_
      refine wl_skip rfl rfl rfl rfl rfl rfl rfl ?_
      refine wl_x (ox_pick_f rfl rfl rfl) rfl rfl rfl ?_
      refine wl_nil ?_
      refine nx_then ?_
      refine ws_cond_f rfl ?_
      refine ws_skip ?_
      refine nx_block ?_
      refine nx_then ?_
      refine ws_region ?_
      refine wl_x (ox_move rfl rfl) rfl rfl rfl ?_
      refine wl_x (ox_add rfl rfl rfl (by omega)) rfl rfl rfl ?_
      refine wl_x (ox_assign rfl rfl) rfl rfl rfl ?_
      refine wl_nil ?_
      refine nx_round (l.length - (k + 1)) _ (by omega) ⟨k + 1, c, rfl, rfl, rfl, rfl, by omega, by rw [hts, hc]; simp [Br.at, h1]⟩ (by repeat (first | exact trivial | refine ⟨rfl, ?_⟩))
  · skip
    refine ws_exit ?_
    refine nx_then_exit ?_
    refine nx_then_exit ?_
    refine nx_block_exit ?_
    refine nx_then ?_
    refine ws_seq ?_
    refine ws_region ?_
    refine wl_x (ox_move rfl rfl) rfl rfl rfl ?_
    refine wl_x (ox_assign rfl rfl) rfl rfl rfl ?_
    refine wl_nil ?_
    refine nx_then ?_
    refine ws_ret ?_
    have hkl : l.take k = l := List.take_of_length_le (by omega)
    exact nx_ret1 rfl rfl (by rw [hc, hkl])
end Go.Proofs.Ythdkhnjnhhofgaa
