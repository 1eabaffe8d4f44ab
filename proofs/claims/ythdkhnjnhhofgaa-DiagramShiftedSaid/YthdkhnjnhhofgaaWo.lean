/- Walks: the reference's distance. -/
import Derived.Test.YthdkhnjnhhofgaaWn
set_option linter.unusedSimpArgs false
set_option linter.unusedVariables false
set_option maxRecDepth 100000
namespace Go.Proofs.Ythdkhnjnhhofgaa
open Go.Eng Go.RowKit Go.Kuhn

theorem chosen_open (dim : Int) : Br.chosen dim true = Br.openIn dim := by funext b; simp [Br.chosen, Br.openIn]
theorem chosen_fin (dim : Int) : Br.chosen dim false = Br.finIn dim := by
  funext b; unfold Br.chosen Br.finIn Br.cnt
  cases b.opn <;> simp
theorem sorted_perm_eq : ∀ {l l' : List Int}, l.Pairwise (· ≤ ·) → l'.Pairwise (· ≤ ·) → l.Perm l' → l = l' := fun h h' p =>
  p.eq_of_pairwise (fun a b _ _ h1 h2 => by omega) h h'
theorem putAll_isort (l : List Int) : putAll l = isort l := sorted_perm_eq (putAll_sorted l) (isort_sorted l) ((putAll_perm l).trans (isort_perm l).symm)

open Classical in
/-- Are the long bars covered? -/
noncomputable def cposB (p q : List Br) (c : Int) : Bool := decide (CPos p q c)
theorem covered_v (la lb : List Br) (va vb : Value) (cost : Int) (h : Hp) (hRa : RdL cBr 6 h [] va la) (hRb : RdL cBr 6 h [] vb lb) (hla : la.length ≤ 1000000) (hlb : lb.length ≤ 1000000) (hA : ∀ b ∈ la, BOk b) (hB : ∀ b ∈ lb, BOk b) (ms : List Hp) :
    FnV Try.prog 42 #[va, vb, .int .i64 cost] h ms (.bool (cposB la lb cost)) := by
  refine fun w hw => (?_ : FnV _ _ _ h [] _) w (hw.weaken (Hp.le_refl _) (List.nil_sublist _))
  refine FnT.toV (FnT.mono (covered_ok la lb va vb cost h hRa hRb hla hlb hA hB) ?_)
  rintro r h' ms' ⟨b, rfl, h1, h2⟩
  unfold cposB
  cases b with
  | true => simp [h1 rfl]
  | false => simp [cneg_not_cpos (h2 rfl)]

/-- What the search among the first k costs has found. -/
def Best (p q : List Br) (L : Int) (C : List Int) (k : Nat) (best : Int) : Prop :=
  (best = -1 ∧ ∀ j (hj : j < C.length), j < k → L ≤ C[j] → ¬ Pos (fitsD p q C[j]) (p.length + q.length)) ∨
  (0 ≤ best ∧ best ∈ C ∧ L ≤ best ∧ Pos (fitsD p q best) (p.length + q.length) ∧ ∀ j (hj : j < C.length), j < k → L ≤ C[j] → Pos (fitsD p q C[j]) (p.length + q.length) → best ≤ C[j])
theorem Best.skip {p q : List Br} {L : Int} {C : List Int} {k : Nat} {best : Int} (h : Best p q L C k best) (hs : ∀ hk : k < C.length, L ≤ C[k] → Pos (fitsD p q C[k]) (p.length + q.length) → 0 ≤ best ∧ best ≤ C[k]) : Best p q L C (k + 1) best := by
  rcases h with ⟨h1, h2⟩ | ⟨h0, h1, h2, h3, h4⟩
  · refine .inl ⟨h1, fun j hj hjk h5 h6 => ?_⟩
    by_cases e : j = k
    · subst e; have := (hs hj h5 h6).1; omega
    · exact h2 j hj (by omega) h5 h6
  · refine .inr ⟨h0, h1, h2, h3, fun j hj hjk h5 h6 => ?_⟩
    by_cases e : j = k
    · subst e; exact (hs hj h5 h6).2
    · exact h4 j hj (by omega) h5 h6
theorem Best.take {p q : List Br} {L : Int} {C : List Int} {k : Nat} {best : Int} (h : Best p q L C k best) (hL : 0 ≤ L) (hk : k < C.length) (h1 : L ≤ C[k]) (h2 : Pos (fitsD p q C[k]) (p.length + q.length)) (h3 : 0 ≤ best → C[k] ≤ best) : Best p q L C (k + 1) C[k] := by
  refine .inr ⟨by omega, List.getElem_mem hk, h1, h2, fun j hj hjk h5 h6 => ?_⟩
  by_cases e : j = k
  · subst e; exact Int.le_refl _
  · rcases h with ⟨g1, g2⟩ | ⟨g0, g1, g2, g3, g4⟩
    · exact absurd h6 (g2 j hj (by omega) h5)
    · have := g4 j hj (by omega) h5 h6
      have := h3 g0
      omega

theorem cposB_and {p q : List Br} {c : Int} : Pos (fitsD p q c) (p.length + q.length) ↔ cposB p q c = true ∧ cposB q p c = true := by
  rw [pos_iff]; simp [cposB]

theorem max_mem : ∀ l : List Int, l ≠ [] → ∃ M ∈ l, ∀ c ∈ l, c ≤ M
  | [], h => absurd rfl h
  | [a], _ => ⟨a, by simp, by simp⟩
  | a :: b :: l, _ => by
    obtain ⟨M, h1, h2⟩ := max_mem (b :: l) (by simp)
    rcases Int.le_total a M with h | h
    · exact ⟨M, by simp [h1], fun c hc => by
        rcases List.mem_cons.1 hc with rfl | hc
        · exact h
        · exact h2 c hc⟩
    · exact ⟨a, by simp, fun c hc => by
        rcases List.mem_cons.1 hc with rfl | hc
        · exact Int.le_refl _
        · have := h2 c hc; omega⟩
set_option maxHeartbeats 1000000 in
theorem rdistance_ok (la lb : List Br) (va vb : Value) (dim : Int) (h : Hp) (hRa : RdL cBr 6 h [] va la) (hRb : RdL cBr 6 h [] vb lb) (hla : la.length ≤ 10000) (hlb : lb.length ≤ 10000) (hA : ∀ b ∈ la, BOk b) (hB : ∀ b ∈ lb, BOk b) :
    FnT Try.prog 13 #[va, vb, .int .i64 dim] h [] (fun r _ _ => ∃ (d : Int) (e : Bool), r = .tuple #[.int .i64 d, .bool e] ∧ ((birthsOf dim la).length ≠ (birthsOf dim lb).length → d = 0 ∧ e = false) ∧ ((birthsOf dim la).length = (birthsOf dim lb).length → e = true ∧ IsDist (la.filter (Br.finIn dim)) (lb.filter (Br.finIn dim)) (leastOf ((birthsOf dim la).zip (birthsOf dim lb))) d)) := by
  have hfl : ∀ (f : Br → Bool) (l : List Br), (l.filter f).length ≤ l.length := fun f l => List.length_filter_le _ _
  have hf1 := hfl (Br.openIn dim) la
  have hf2 := hfl (Br.openIn dim) lb
  refine fn_enter Try.func13 Try.ntmps13 rfl rfl (fun w0 hw0 => ?_)
  simp only [argS]
  refine ws_seq ?_
  refine ws_region ?_
  refine wl_x (ox_assign rfl rfl) rfl rfl rfl ?_
  refine wl_x (ox_assign rfl rfl) rfl rfl rfl ?_
  refine wl_nil ?_
  refine nx_then ?_
  refine ws_seq ?_
  refine ws_region ?_
  refine wl_x (ox_move rfl rfl) rfl rfl rfl ?_
  refine wl_x (ox_move rfl rfl) rfl rfl rfl ?_
  refine wl_call rfl Try.call39 rfl (chosen_ok la va dim true h hRa (by omega)) rfl rfl rfl (fun v1 h1 _ l1 hL => ?_)
  obtain ⟨rfl, hR1⟩ := hL
  rw [chosen_open] at hR1
  refine wl_call rfl Try.call38 rfl (rbirths_ok _ v1 h1 hR1 (by omega)) rfl rfl rfl (fun vx h2 _ l2 hL => ?_)
  obtain ⟨rfl, hRx⟩ := hL
  rw [putAll_isort] at hRx
  refine wl_x (ox_assign rfl rfl) rfl rfl rfl ?_
  refine wl_nil ?_
  refine nx_then ?_
  refine ws_seq ?_
  refine ws_region ?_
  refine wl_x (ox_move rfl rfl) rfl rfl rfl ?_
  refine wl_x (ox_move rfl rfl) rfl rfl rfl ?_
  refine wl_call rfl Try.call39 rfl (chosen_ok lb vb dim true h2 (hRb.up (Hp.le_trans l1 l2)) (by omega)) rfl rfl rfl (fun v2 h3 _ l3 hL => ?_)
  obtain ⟨rfl, hR2⟩ := hL
  rw [chosen_open] at hR2
  refine wl_call rfl Try.call38 rfl (rbirths_ok _ v2 h3 hR2 (by omega)) rfl rfl rfl (fun vy h4 _ l4 hL => ?_)
  obtain ⟨rfl, hRy⟩ := hL
  rw [putAll_isort] at hRy
  have hRx := hRx.up (Hp.le_trans l3 l4)
  have hl4 := Hp.le_trans (Hp.le_trans l1 l2) (Hp.le_trans l3 l4)
  have hRa1 := hRa.up hl4
  have hRb1 := hRb.up hl4
  clear hRa hRb hR1 hR2 l1 l2 l3 l4 hl4
  have hxb := birthsOf_bd dim la hA
  have hyb := birthsOf_bd dim lb hB
  have hxl := birthsOf_len dim la
  have hyl := birthsOf_len dim lb
  change RdL cI 1 h4 [] vx (birthsOf dim la) at hRx
  change RdL cI 1 h4 [] vy (birthsOf dim lb) at hRy
  generalize hX : birthsOf dim la = X at hRx hxb hxl ⊢
  generalize hY : birthsOf dim lb = Y at hRy hyb hyl ⊢
  refine wl_x (ox_assign rfl rfl) rfl rfl rfl ?_
  refine wl_nil ?_
  refine nx_then ?_
  refine ws_seq ?_
  refine ws_seq ?_
  refine ws_region ?_
  refine wl_x (ox_move rfl rfl) rfl rfl rfl ?_
  first | refine wl_x (ox_len (ty := 23) rfl Try.underlying23 rfl) rfl rfl rfl ?_ | refine wl_x (ox_lenR hRx.rd.any rfl Try.underlying23 rfl) rfl rfl rfl ?_ | refine wl_x (ox_lenR hRy.rd.any rfl Try.underlying23 rfl) rfl rfl rfl ?_
  refine wl_x (ox_move rfl rfl) rfl rfl rfl ?_
  first | refine wl_x (ox_len (ty := 23) rfl Try.underlying23 rfl) rfl rfl rfl ?_ | refine wl_x (ox_lenR hRx.rd.any rfl Try.underlying23 rfl) rfl rfl rfl ?_ | refine wl_x (ox_lenR hRy.rd.any rfl Try.underlying23 rfl) rfl rfl rfl ?_
  refine wl_x (ox_nei rfl rfl rfl) rfl rfl rfl ?_
  refine wl_nil ?_
  refine nx_then ?_
  have hZ : ∀ p ∈ X.zip Y, iabs (p.1 - p.2) ≤ 2000000000000 := fun p hp => by
    have h1 := hxb _ (List.of_mem_zip hp).1
    have h2 := hyb _ (List.of_mem_zip hp).2
    unfold iabs; omega
  refine ws_if rfl (fun hne => ?_) (fun hne => ?_)
  · skip
    refine ws_seq ?_
    refine ws_region ?_
    refine wl_x (ox_assign rfl rfl) rfl rfl rfl ?_
    refine wl_x (ox_assign rfl rfl) rfl rfl rfl ?_
    refine wl_nil ?_
    refine nx_then ?_
    refine ws_ret ?_
    refine nx_then_ret ?_
    exact nx_ret2 rfl rfl rfl (⟨0, false, rfl, fun _ => ⟨rfl, rfl⟩, fun h => absurd h (by omega)⟩)
  · skip
    have hlen : X.length = Y.length := by omega
    refine ws_skip ?_
    refine nx_then ?_
    refine ws_seq ?_
    refine ws_region ?_
    refine wl_x (ox_assign rfl rfl) rfl rfl rfl ?_
    refine wl_nil ?_
    refine nx_then ?_
    refine ws_seq ?_
    refine ws_seq ?_
    refine ws_region ?_
    refine wl_x (ox_assign rfl rfl) rfl rfl rfl ?_
    refine wl_nil ?_
    refine nx_then ?_
    refine ws_block ?_
    refine ws_loop (fun q s h' ms' => ∃ (k : Nat), q = X.length - k ∧ s = [(0, va), (1, vb), (2, .int .i64 dim), (8, vx), (9, vy), (10, .int .i64 (leastOf ((X.zip Y).take k))), (11, .int .i64 k)] ∧ h4 = h' ∧ ms' = [] ∧ k ≤ X.length)
      (X.length - 0) _ ⟨0, rfl, rfl, rfl, rfl, by omega⟩ (by repeat (first | exact trivial | refine ⟨rfl, ?_⟩)) ?_
    rintro q s h' ms' ⟨k, rfl, rfl, rfl, rfl, hk⟩
    refine ws_seq ?_
    refine ws_seq ?_
    refine ws_region ?_
    refine wl_x (ox_move rfl rfl) rfl rfl rfl ?_
    refine wl_x (ox_move rfl rfl) rfl rfl rfl ?_
    first | refine wl_x (ox_len (ty := 23) rfl Try.underlying23 rfl) rfl rfl rfl ?_ | refine wl_x (ox_lenR hRx.rd.any rfl Try.underlying23 rfl) rfl rfl rfl ?_ | refine wl_x (ox_lenR hRy.rd.any rfl Try.underlying23 rfl) rfl rfl rfl ?_
    refine wl_x (ox_lss rfl rfl rfl) rfl rfl rfl ?_
    refine wl_nil ?_
    refine nx_then ?_
    refine ws_if rfl (fun hlt => ?_) (fun hlt => ?_)
    · skip
      have hkx : k < X.length := by omega
      have hky : k < Y.length := by omega
      have hkz : k < (X.zip Y).length := by simp; omega
      have b1 := hxb _ (List.getElem_mem hkx)
      have b2 := hyb _ (List.getElem_mem hky)
      have b3 := leastOf_bd ((X.zip Y).take k) fun p hp => hZ p (List.mem_of_mem_take hp)
      have b4 : iabs (X[k] - Y[k]) ≤ 2000000000000 ∧ 0 ≤ iabs (X[k] - Y[k]) := by unfold iabs; omega
      have hst : (X.zip Y).take (k + 1) = (X.zip Y).take k ++ [(X[k], Y[k])] := by rw [List.take_succ_eq_append_getElem hkz]; simp
      refine ws_skip ?_
      refine nx_then ?_
      refine ws_seq ?_
      refine ws_block ?_
      refine ws_drawP 9 [true] fol (by kernel_rfl) (by kernel_rfl) (by kernel_rfl) ?_
      refine pz_x rfl rfl rfl rfl (px_move rfl rfl) ?_
      refine ⟨rfl, ?_⟩
      simp only [zapL, zap, List.cons_append, List.nil_append, List.take_succ_cons, List.take_zero, List.drop_succ_cons, List.drop_zero, List.take_nil, List.drop_nil]
      refine wr_z rfl rfl rfl ?_
      refine wr_x (ox_move rfl rfl) rfl rfl ?_
      refine wr_x (ox_move rfl rfl) rfl rfl ?_
      first | refine wr_x (ox_index _ rfl Try.underlying23 el3 rfl rfl rfl (by omega)) rfl rfl ?_ | refine wr_x (ox_indexR _ hRx.rd.any rfl Try.underlying23 el3 rfl rfl rfl (by omega)) rfl rfl ?_ | refine wr_x (ox_indexR _ hRy.rd.any rfl Try.underlying23 el3 rfl rfl rfl (by omega)) rfl rfl ?_
      refine wr_x (ox_load rfl Try.underlying3 rfl rfl (by first | exact hRx.any.cell0 hkx rfl | exact hRy.any.cell0 hky rfl)) rfl rfl ?_
      refine wr_x (ox_move rfl rfl) rfl rfl ?_
      refine wr_x (ox_move rfl rfl) rfl rfl ?_
      first | refine wr_x (ox_index _ rfl Try.underlying23 el3 rfl rfl rfl (by omega)) rfl rfl ?_ | refine wr_x (ox_indexR _ hRx.rd.any rfl Try.underlying23 el3 rfl rfl rfl (by omega)) rfl rfl ?_ | refine wr_x (ox_indexR _ hRy.rd.any rfl Try.underlying23 el3 rfl rfl rfl (by omega)) rfl rfl ?_
      refine wr_x (ox_load rfl Try.underlying3 rfl rfl (by first | exact hRx.any.cell0 hkx rfl | exact hRy.any.cell0 hky rfl)) rfl rfl ?_
      refine wr_nil ?_
      refine wl_x (ox_sub rfl rfl rfl (by omega)) rfl rfl rfl ?_
      refine wl_x (ox_call rfl Try.call40 rfl (rabs_ok _ (by omega) _ _)) rfl rfl rfl ?_
      refine wl_x (ox_mul rfl rfl rfl (by omega)) rfl rfl rfl ?_
      refine wl_x (ox_max rfl rfl rfl) rfl rfl rfl ?_
      refine wl_x (ox_assign rfl rfl) rfl rfl rfl ?_
      refine wl_nil ?_
      refine nx_q0 ?_
      refine nx_block ?_
      refine nx_then ?_
      refine ws_region ?_
      refine wl_x (ox_move rfl rfl) rfl rfl rfl ?_
      refine wl_x (ox_add rfl rfl rfl (by omega)) rfl rfl rfl ?_
      refine wl_x (ox_assign rfl rfl) rfl rfl rfl ?_
      refine wl_nil ?_
      refine nx_round (X.length - (k + 1)) _ (by omega) ⟨k + 1, rfl, by rw [hst, leastOf_snoc], rfl, rfl, by omega⟩ (by repeat (first | exact trivial | refine ⟨rfl, ?_⟩))
    · skip
      have hkX : k = X.length := by omega
      have htk : (X.zip Y).take k = X.zip Y := List.take_of_length_le (by simp; omega)
      rw [htk]
      have b3 := leastOf_bd (X.zip Y) hZ
      generalize leastOf (X.zip Y) = L at b3 ⊢
      refine ws_exit ?_
      refine nx_then_exit ?_
      refine nx_then_exit ?_
      refine nx_block_exit ?_
      refine nx_then ?_
      refine ws_seq ?_
      refine ws_region ?_
      refine wl_x (ox_move rfl rfl) rfl rfl rfl ?_
      refine wl_x (ox_move rfl rfl) rfl rfl rfl ?_
      refine wl_call rfl Try.call39 rfl (chosen_ok la va dim false h4 hRa1 (by omega)) rfl rfl rfl (fun vp h5 _ l5 hL => ?_)
      obtain ⟨rfl, hRp⟩ := hL
      refine wl_x (ox_assign rfl rfl) rfl rfl rfl ?_
      refine wl_nil ?_
      refine nx_then ?_
      refine ws_seq ?_
      refine ws_region ?_
      refine wl_x (ox_move rfl rfl) rfl rfl rfl ?_
      refine wl_x (ox_move rfl rfl) rfl rfl rfl ?_
      refine wl_call rfl Try.call39 rfl (chosen_ok lb vb dim false h5 (hRb1.up l5) (by omega)) rfl rfl rfl (fun vq h6 _ l6 hL => ?_)
      obtain ⟨rfl, hRq⟩ := hL
      have hRp := hRp.up l6
      rw [chosen_fin] at hRp hRq
      have hp1 : (la.filter (Br.finIn dim)).length ≤ la.length := List.length_filter_le _ _
      have hq1 : (lb.filter (Br.finIn dim)).length ≤ lb.length := List.length_filter_le _ _
      have hpA : ∀ b ∈ la.filter (Br.finIn dim), BOk b := fun b hb => hA b (List.mem_filter.1 hb).1
      have hqB : ∀ b ∈ lb.filter (Br.finIn dim), BOk b := fun b hb => hB b (List.mem_filter.1 hb).1
      generalize la.filter (Br.finIn dim) = p at hRp hp1 hpA ⊢
      generalize lb.filter (Br.finIn dim) = q at hRq hq1 hqB ⊢
      refine wl_x (ox_assign rfl rfl) rfl rfl rfl ?_
      refine wl_nil ?_
      refine nx_then ?_
      refine ws_seq ?_
      refine ws_region ?_
      refine wl_x (ox_assign rfl rfl) rfl rfl rfl ?_
      refine wl_nil ?_
      refine nx_then ?_
      refine ws_seq ?_
      refine ws_region ?_
      refine wl_x (ox_move rfl rfl) rfl rfl rfl ?_
      refine wl_buildSlice1 [_] rfl Try.underlying23 el3 rfl (by first | rfl | exact Rd.cells ‹_› | exact (RdL.rd ‹_›).cells) rfl rfl (by omega) rfl rfl rfl (fun g61 => ?_)
      refine wl_x (ox_assign rfl rfl) rfl rfl rfl ?_
      refine wl_nil ?_
      refine nx_then ?_
      refine ws_seq ?_
      refine ws_seq ?_
      refine ws_region ?_
      refine wl_x (ox_assign rfl rfl) rfl rfl rfl ?_
      refine wl_nil ?_
      refine nx_then ?_
      refine ws_block ?_
      refine ws_loop (fun n s h' ms' => ∃ (k : Nat) (v : Value) (m : Hp) (C : List Int), n = p.length - k ∧ s = [(10, .int .i64 L), (12, vp), (13, vq), (14, .int .i64 (-1)), (15, v), (16, .int .i64 k)] ∧ h6 = h' ∧ ms' = [m] ∧ k ≤ p.length ∧ OwnL cI 1 3 m v C ∧ C = L :: ((p.take k).flatMap fun x => x.len :: q.map x.apart) ∧ C.length ≤ 1 + k * 20000)
        (p.length - 0) _ ⟨0, _, _, [L], rfl, rfl, rfl, rfl, by omega, own_one _ _, rfl, by simp⟩ (by repeat (first | exact trivial | refine ⟨rfl, ?_⟩)) ?_
      rintro n s h' ms' ⟨k, v, m, C, rfl, rfl, rfl, rfl, hk, hO, hC, hCl⟩
      refine ws_seq ?_
      refine ws_seq ?_
      refine ws_region ?_
      refine wl_x (ox_move rfl rfl) rfl rfl rfl ?_
      refine wl_x (ox_move rfl rfl) rfl rfl rfl ?_
      first | refine wl_x (ox_len (ty := 25) rfl Try.underlying25 rfl) rfl rfl rfl ?_ | refine wl_x (ox_lenR hRp.rd.any rfl Try.underlying25 rfl) rfl rfl rfl ?_ | refine wl_x (ox_lenR hRq.rd.any rfl Try.underlying25 rfl) rfl rfl rfl ?_
      refine wl_x (ox_lss rfl rfl rfl) rfl rfl rfl ?_
      refine wl_nil ?_
      refine nx_then ?_
      refine ws_if rfl (fun hltp => ?_) (fun hltp => ?_)
      · skip
        have hkp : k < p.length := by omega
        have hbk := hpA _ (List.getElem_mem hkp)
        obtain ⟨b1, b2, b4, b5⟩ := hbk
        have hbk := hpA _ (List.getElem_mem hkp)
        have hts : (p.take (k + 1)).flatMap (fun x => x.len :: q.map x.apart) = (p.take k).flatMap (fun x => x.len :: q.map x.apart) ++ (p[k].len :: q.map p[k].apart) := by
          rw [List.take_succ_eq_append_getElem hkp, List.flatMap_append]; simp
        refine ws_skip ?_
        refine nx_then ?_
        refine ws_seq ?_
        refine ws_block ?_
        refine ws_seq ?_
        refine ws_drawP 11 [true] fol (by kernel_rfl) (by kernel_rfl) (by kernel_rfl) ?_
        refine pz_x rfl rfl rfl rfl (px_move rfl rfl) ?_
        refine ⟨rfl, ?_⟩
        simp only [zapL, zap, List.cons_append, List.nil_append, List.take_succ_cons, List.take_zero, List.drop_succ_cons, List.drop_zero, List.take_nil, List.drop_nil]
        refine wr_z rfl rfl rfl ?_
        refine wr_x (ox_move rfl rfl) rfl rfl ?_
        refine wr_x (ox_move rfl rfl) rfl rfl ?_
        first | refine wr_x (ox_index _ rfl Try.underlying25 el40 rfl rfl rfl (by omega)) rfl rfl ?_ | refine wr_x (ox_indexR _ hRp.rd.any rfl Try.underlying25 el40 rfl rfl rfl (by omega)) rfl rfl ?_ | refine wr_x (ox_indexR _ hRq.rd.any rfl Try.underlying25 el40 rfl rfl rfl (by omega)) rfl rfl ?_
        refine wr_x (ox_fieldF fd40_2 rfl rfl) rfl rfl ?_
        refine wr_x (ox_load rfl Try.underlying3 rfl rfl (by first | exact hRp.any.cell hkp rfl)) rfl rfl ?_
        refine wr_x (ox_move rfl rfl) rfl rfl ?_
        refine wr_x (ox_move rfl rfl) rfl rfl ?_
        first | refine wr_x (ox_index _ rfl Try.underlying25 el40 rfl rfl rfl (by omega)) rfl rfl ?_ | refine wr_x (ox_indexR _ hRp.rd.any rfl Try.underlying25 el40 rfl rfl rfl (by omega)) rfl rfl ?_ | refine wr_x (ox_indexR _ hRq.rd.any rfl Try.underlying25 el40 rfl rfl rfl (by omega)) rfl rfl ?_
        refine wr_x (ox_fieldF fd40_1 rfl rfl) rfl rfl ?_
        refine wr_x (ox_load rfl Try.underlying3 rfl rfl (by first | exact hRp.any.cell hkp rfl)) rfl rfl ?_
        refine wr_nil ?_
        refine wl_x (ox_sub rfl rfl rfl (by omega)) rfl rfl rfl ?_
        refine wl_buildSlice1 [_] rfl Try.underlying23 el3 rfl (by first | rfl | exact Rd.cells ‹_› | exact (RdL.rd ‹_›).cells) rfl rfl (by omega) rfl rfl rfl (fun g80 => ?_)
        refine wl_appendL 1 hO (RdL.one cI_len (List.Mem.head _) rfl) rfl Try.underlying23 el3 rfl (by omega) rfl rfl rfl cI_one (by simp; omega) (by simp; omega) rfl rfl rfl (fun v1 m1 hO1 => ?_)
        refine wl_x (ox_assign rfl rfl) rfl rfl rfl ?_
        refine wl_nil ?_
        refine nx_q0 ?_
        refine nx_then ?_
        refine ws_seq ?_
        refine ws_region ?_
        refine wl_x (ox_assign rfl rfl) rfl rfl rfl ?_
        refine wl_nil ?_
        refine nx_then ?_
        refine ws_block ?_
        refine ws_drop ?_
        refine ws_loop (fun n s h' ms' => ∃ (j : Nat) (v : Value) (m : Hp) (D : List Int), n = q.length - j ∧ s = [(10, .int .i64 L), (12, vp), (13, vq), (14, .int .i64 (-1)), (15, v), (16, .int .i64 k), (17, .int .i64 j)] ∧ h6 = h' ∧ ms' = [m] ∧ j ≤ q.length ∧ OwnL cI 1 3 m v D ∧ D = C ++ p[k].len :: (q.take j).map p[k].apart ∧ D.length ≤ 2 + k * 20000 + j)
          (q.length - 0) _ ⟨0, _, m1, _, rfl, rfl, rfl, rfl, by omega, hO1, by simp [Br.len], by simp; omega⟩ (by repeat (first | exact trivial | refine ⟨rfl, ?_⟩)) ?_
        clear hO hO1
        rintro n s h' ms' ⟨j, v, m, D, rfl, rfl, rfl, rfl, hj, hO, hD, hDl⟩
        refine ws_seq ?_
        refine ws_seq ?_
        refine ws_region ?_
        refine wl_x (ox_move rfl rfl) rfl rfl rfl ?_
        refine wl_x (ox_move rfl rfl) rfl rfl rfl ?_
        first | refine wl_x (ox_len (ty := 25) rfl Try.underlying25 rfl) rfl rfl rfl ?_ | refine wl_x (ox_lenR hRp.rd.any rfl Try.underlying25 rfl) rfl rfl rfl ?_ | refine wl_x (ox_lenR hRq.rd.any rfl Try.underlying25 rfl) rfl rfl rfl ?_
        refine wl_x (ox_lss rfl rfl rfl) rfl rfl rfl ?_
        refine wl_nil ?_
        refine nx_then ?_
        refine ws_if rfl (fun hltq => ?_) (fun hltq => ?_)
        · skip
          have hjq : j < q.length := by omega
          have hbj := hqB _ (List.getElem_mem hjq)
          have htj := take_succ_map p[k].apart q j hjq
          refine ws_skip ?_
          refine nx_then ?_
          refine ws_seq ?_
          refine ws_block ?_
          refine ws_drawP 9 [true] fol (by kernel_rfl) (by kernel_rfl) (by kernel_rfl) ?_
          refine pz_x rfl rfl rfl rfl (px_move rfl rfl) ?_
          refine ⟨rfl, ?_⟩
          simp only [zapL, zap, List.cons_append, List.nil_append, List.take_succ_cons, List.take_zero, List.drop_succ_cons, List.drop_zero, List.take_nil, List.drop_nil]
          refine wr_z rfl rfl rfl ?_
          refine wr_x (ox_move rfl rfl) rfl rfl ?_
          refine wr_x (ox_move rfl rfl) rfl rfl ?_
          first | refine wr_x (ox_index _ rfl Try.underlying25 el40 rfl rfl rfl (by omega)) rfl rfl ?_ | refine wr_x (ox_indexR _ hRp.rd.any rfl Try.underlying25 el40 rfl rfl rfl (by omega)) rfl rfl ?_ | refine wr_x (ox_indexR _ hRq.rd.any rfl Try.underlying25 el40 rfl rfl rfl (by omega)) rfl rfl ?_
          refine wr_x (ox_loadG rfl Try.underlying40 rfl el40 rfl rfl (by first | exact hRp.any.seg hkp | exact hRq.any.seg hjq)) rfl rfl ?_
          refine wr_x (ox_move rfl rfl) rfl rfl ?_
          refine wr_x (ox_move rfl rfl) rfl rfl ?_
          first | refine wr_x (ox_index _ rfl Try.underlying25 el40 rfl rfl rfl (by omega)) rfl rfl ?_ | refine wr_x (ox_indexR _ hRp.rd.any rfl Try.underlying25 el40 rfl rfl rfl (by omega)) rfl rfl ?_ | refine wr_x (ox_indexR _ hRq.rd.any rfl Try.underlying25 el40 rfl rfl rfl (by omega)) rfl rfl ?_
          refine wr_x (ox_loadG rfl Try.underlying40 rfl el40 rfl rfl (by first | exact hRp.any.seg hkp | exact hRq.any.seg hjq)) rfl rfl ?_
          refine wr_nil ?_
          refine wl_x (ox_call rfl Try.call41 rfl (rapart_ok _ _ hbk hbj _ _)) rfl rfl rfl ?_
          refine wl_buildSlice1 [_] rfl Try.underlying23 el3 rfl (by first | rfl | exact Rd.cells ‹_› | exact (RdL.rd ‹_›).cells) rfl rfl (by omega) rfl rfl rfl (fun g98 => ?_)
          refine wl_appendL 1 hO (RdL.one cI_len (List.Mem.head _) rfl) rfl Try.underlying23 el3 rfl (by omega) rfl rfl rfl cI_one (by simp; omega) (by simp; omega) rfl rfl rfl (fun v1 m1 hO1 => ?_)
          refine wl_x (ox_assign rfl rfl) rfl rfl rfl ?_
          refine wl_nil ?_
          refine nx_q0 ?_
          refine nx_block ?_
          refine nx_then ?_
          refine ws_region ?_
          refine wl_x (ox_move rfl rfl) rfl rfl rfl ?_
          refine wl_x (ox_add rfl rfl rfl (by omega)) rfl rfl rfl ?_
          refine wl_x (ox_assign rfl rfl) rfl rfl rfl ?_
          refine wl_nil ?_
          refine nx_drop ?_
          refine nx_round (q.length - (j + 1)) _ (by omega) ⟨j + 1, v1, m1, _, rfl, rfl, rfl, rfl, by omega, hO1, by rw [hD, htj]; simp, by simp; omega⟩ (by repeat (first | exact trivial | refine ⟨rfl, ?_⟩))
        · skip
          rw [List.take_of_length_le (by omega)] at hD
          refine ws_exit ?_
          refine nx_then_exit ?_
          refine nx_then_exit ?_
          refine nx_block_exit ?_
          refine nx_block ?_
          refine nx_then ?_
          refine ws_region ?_
          refine wl_x (ox_move rfl rfl) rfl rfl rfl ?_
          refine wl_x (ox_add rfl rfl rfl (by omega)) rfl rfl rfl ?_
          refine wl_x (ox_assign rfl rfl) rfl rfl rfl ?_
          refine wl_nil ?_
          refine nx_round (p.length - (k + 1)) _ (by omega) ⟨k + 1, v, m, D, rfl, rfl, rfl, rfl, by omega, hO, by rw [hD, hC, hts]; simp, by omega⟩ (by repeat (first | exact trivial | refine ⟨rfl, ?_⟩))
      · skip
        have hkP : k = p.length := by omega
        rw [List.take_of_length_le (by omega)] at hC
        refine ws_exit ?_
        refine nx_then_exit ?_
        refine nx_then_exit ?_
        refine nx_block_exit ?_
        refine nx_then ?_
        refine ws_seq ?_
        refine ws_seq ?_
        refine ws_region ?_
        refine wl_x (ox_assign rfl rfl) rfl rfl rfl ?_
        refine wl_nil ?_
        refine nx_then ?_
        refine ws_block ?_
        refine ws_loop (fun n s h' ms' => ∃ (j : Nat) (v : Value) (m : Hp) (D : List Int), n = q.length - j ∧ s = [(10, .int .i64 L), (12, vp), (13, vq), (14, .int .i64 (-1)), (15, v), (18, .int .i64 j)] ∧ h6 = h' ∧ ms' = [m] ∧ j ≤ q.length ∧ OwnL cI 1 3 m v D ∧ D = C ++ (q.take j).map Br.len ∧ D.length ≤ 1 + k * 20000 + j)
          (q.length - 0) _ ⟨0, v, m, C, rfl, rfl, rfl, rfl, by omega, hO, by simp, by omega⟩ (by repeat (first | exact trivial | refine ⟨rfl, ?_⟩)) ?_
        clear hO
        rintro n s h' ms' ⟨j, v, m, D, rfl, rfl, rfl, rfl, hj, hO, hD, hDl⟩
        refine ws_seq ?_
        refine ws_seq ?_
        refine ws_region ?_
        refine wl_x (ox_move rfl rfl) rfl rfl rfl ?_
        refine wl_x (ox_move rfl rfl) rfl rfl rfl ?_
        first | refine wl_x (ox_len (ty := 25) rfl Try.underlying25 rfl) rfl rfl rfl ?_ | refine wl_x (ox_lenR hRp.rd.any rfl Try.underlying25 rfl) rfl rfl rfl ?_ | refine wl_x (ox_lenR hRq.rd.any rfl Try.underlying25 rfl) rfl rfl rfl ?_
        refine wl_x (ox_lss rfl rfl rfl) rfl rfl rfl ?_
        refine wl_nil ?_
        refine nx_then ?_
        refine ws_if rfl (fun hltq => ?_) (fun hltq => ?_)
        · skip
          have hjq : j < q.length := by omega
          have hbj := hqB _ (List.getElem_mem hjq)
          obtain ⟨b1, b2, b4, b5⟩ := hbj
          have htj := take_succ_map Br.len q j hjq
          refine ws_skip ?_
          refine nx_then ?_
          refine ws_seq ?_
          refine ws_block ?_
          refine ws_drawP 11 [true] fol (by kernel_rfl) (by kernel_rfl) (by kernel_rfl) ?_
          refine pz_x rfl rfl rfl rfl (px_move rfl rfl) ?_
          refine ⟨rfl, ?_⟩
          simp only [zapL, zap, List.cons_append, List.nil_append, List.take_succ_cons, List.take_zero, List.drop_succ_cons, List.drop_zero, List.take_nil, List.drop_nil]
          refine wr_z rfl rfl rfl ?_
          refine wr_x (ox_move rfl rfl) rfl rfl ?_
          refine wr_x (ox_move rfl rfl) rfl rfl ?_
          first | refine wr_x (ox_index _ rfl Try.underlying25 el40 rfl rfl rfl (by omega)) rfl rfl ?_ | refine wr_x (ox_indexR _ hRp.rd.any rfl Try.underlying25 el40 rfl rfl rfl (by omega)) rfl rfl ?_ | refine wr_x (ox_indexR _ hRq.rd.any rfl Try.underlying25 el40 rfl rfl rfl (by omega)) rfl rfl ?_
          refine wr_x (ox_fieldF fd40_2 rfl rfl) rfl rfl ?_
          refine wr_x (ox_load rfl Try.underlying3 rfl rfl (by first | exact hRq.any.cell hjq rfl)) rfl rfl ?_
          refine wr_x (ox_move rfl rfl) rfl rfl ?_
          refine wr_x (ox_move rfl rfl) rfl rfl ?_
          first | refine wr_x (ox_index _ rfl Try.underlying25 el40 rfl rfl rfl (by omega)) rfl rfl ?_ | refine wr_x (ox_indexR _ hRp.rd.any rfl Try.underlying25 el40 rfl rfl rfl (by omega)) rfl rfl ?_ | refine wr_x (ox_indexR _ hRq.rd.any rfl Try.underlying25 el40 rfl rfl rfl (by omega)) rfl rfl ?_
          refine wr_x (ox_fieldF fd40_1 rfl rfl) rfl rfl ?_
          refine wr_x (ox_load rfl Try.underlying3 rfl rfl (by first | exact hRq.any.cell hjq rfl)) rfl rfl ?_
          refine wr_nil ?_
          refine wl_x (ox_sub rfl rfl rfl (by omega)) rfl rfl rfl ?_
          refine wl_buildSlice1 [_] rfl Try.underlying23 el3 rfl (by first | rfl | exact Rd.cells ‹_› | exact (RdL.rd ‹_›).cells) rfl rfl (by omega) rfl rfl rfl (fun g118 => ?_)
          refine wl_appendL 1 hO (RdL.one cI_len (List.Mem.head _) rfl) rfl Try.underlying23 el3 rfl (by omega) rfl rfl rfl cI_one (by simp; omega) (by simp; omega) rfl rfl rfl (fun v1 m1 hO1 => ?_)
          refine wl_x (ox_assign rfl rfl) rfl rfl rfl ?_
          refine wl_nil ?_
          refine nx_q0 ?_
          refine nx_block ?_
          refine nx_then ?_
          refine ws_region ?_
          refine wl_x (ox_move rfl rfl) rfl rfl rfl ?_
          refine wl_x (ox_add rfl rfl rfl (by omega)) rfl rfl rfl ?_
          refine wl_x (ox_assign rfl rfl) rfl rfl rfl ?_
          refine wl_nil ?_
          refine nx_drop ?_
          refine nx_round (q.length - (j + 1)) _ (by omega) ⟨j + 1, v1, m1, _, rfl, rfl, rfl, rfl, by omega, hO1, by rw [hD, htj]; simp [Br.len], by simp; omega⟩ (by repeat (first | exact trivial | refine ⟨rfl, ?_⟩))
        · skip
          rw [List.take_of_length_le (by omega)] at hD
          have hDc : D = costsOf p q L := by rw [hD, hC]; rfl
          refine ws_exit ?_
          refine nx_then_exit ?_
          refine nx_then_exit ?_
          refine nx_block_exit ?_
          refine nx_then ?_
          refine ws_freezeL hO (fun h7 l7 hRC => ?_)
          have hRp := hRp.up l7
          have hRq := hRq.up l7
          clear hC hD hO
          generalize D = C at hDc hDl hRC
          have hCm : ∀ c, c ∈ C ↔ c ∈ costsOf p q L := fun c => by rw [hDc]
          clear hDc
          refine ws_seq ?_
          refine ws_seq ?_
          refine ws_region ?_
          refine wl_x (ox_assign rfl rfl) rfl rfl rfl ?_
          refine wl_nil ?_
          refine nx_then ?_
          refine ws_block ?_
          refine ws_loop (fun n s h' ms' => ∃ (i : Nat) (best : Int), n = C.length - i ∧ s = [(12, vp), (13, vq), (10, .int .i64 L), (14, .int .i64 best), (15, v), (19, .int .i64 i)] ∧ h7 = h' ∧ ms' = [] ∧ i ≤ C.length ∧ Best p q L C i best)
            (C.length - 0) _ ⟨0, -1, rfl, rfl, rfl, rfl, by omega, .inl ⟨rfl, fun j _ h => by omega⟩⟩ (by repeat (first | exact trivial | refine ⟨rfl, ?_⟩)) ?_
          rintro n s h' ms' ⟨i, best, rfl, rfl, rfl, rfl, hi, hBst⟩
          refine ws_seq ?_
          refine ws_seq ?_
          refine ws_region ?_
          refine wl_x (ox_move rfl rfl) rfl rfl rfl ?_
          refine wl_x (ox_move rfl rfl) rfl rfl rfl ?_
          first | refine wl_x (ox_len (ty := 23) rfl Try.underlying23 rfl) rfl rfl rfl ?_ | refine wl_x (ox_lenR hRC.rd.any rfl Try.underlying23 rfl) rfl rfl rfl ?_
          refine wl_x (ox_lss rfl rfl rfl) rfl rfl rfl ?_
          refine wl_nil ?_
          refine nx_then ?_
          refine ws_if rfl (fun hlt => ?_) (fun hlt => ?_)
          · skip
            have hic : i < C.length := by omega
            refine ws_skip ?_
            refine nx_then ?_
            refine ws_seq ?_
            refine ws_block ?_
            refine ws_seq ?_
            refine ws_seq ?_
            refine ws_region ?_
            refine wl_x (ox_move rfl rfl) rfl rfl rfl ?_
            refine wl_x (ox_move rfl rfl) rfl rfl rfl ?_
            first | refine wl_x (ox_index _ rfl Try.underlying23 el3 rfl rfl rfl (by omega)) rfl rfl rfl ?_ | refine wl_x (ox_indexR _ hRC.rd.any rfl Try.underlying23 el3 rfl rfl rfl (by omega)) rfl rfl rfl ?_
            refine wl_x (ox_load rfl Try.underlying3 rfl rfl (by first | exact hRC.any.cell0 hic rfl)) rfl rfl rfl ?_
            refine wl_x (ox_move rfl rfl) rfl rfl rfl ?_
            refine wl_x (ox_lss rfl rfl rfl) rfl rfl rfl ?_
            refine wl_x (ox_move rfl rfl) rfl rfl rfl ?_
            refine wl_split (t := 132) rfl (fun g1 => ?_) (fun g1 => ?_)
            · skip
              have hBst' := hBst.skip fun hk h5 h6 => by omega
              refine wl_skip rfl rfl rfl rfl rfl rfl rfl ?_
              refine wl_skip rfl rfl rfl rfl rfl rfl rfl ?_
              refine wl_skip rfl rfl rfl rfl rfl rfl rfl ?_
              refine wl_skipu rfl rfl rfl rfl rfl rfl ?_
              refine wl_skipu rfl rfl rfl rfl rfl rfl ?_
              refine wl_skipu rfl rfl rfl rfl rfl rfl ?_
              refine wl_skipu rfl rfl rfl rfl rfl rfl ?_
              refine wl_skipu rfl rfl rfl rfl rfl rfl ?_
              refine wl_skipu rfl rfl rfl rfl rfl rfl ?_
              refine wl_skip rfl rfl rfl rfl rfl rfl rfl ?_
              refine wl_x (ox_pick_t rfl rfl rfl) rfl rfl rfl ?_
              refine wl_nil ?_
              refine nx_then ?_
              refine ws_cond_t rfl ?_
              refine ws_exit ?_
              refine nx_then_exit ?_
              refine nx_block_exit ?_
              refine nx_then ?_
              refine ws_region ?_
              refine wl_x (ox_move rfl rfl) rfl rfl rfl ?_
              refine wl_x (ox_add rfl rfl rfl (by omega)) rfl rfl rfl ?_
              refine wl_x (ox_assign rfl rfl) rfl rfl rfl ?_
              refine wl_nil ?_
              refine nx_round (C.length - (i + 1)) _ (by omega) ⟨i + 1, best, rfl, rfl, rfl, rfl, by omega, hBst'⟩ (by repeat (first | exact trivial | refine ⟨rfl, ?_⟩))
            · skip
              refine wl_gx (ox_move rfl rfl) rfl rfl rfl rfl rfl rfl ?_
              refine wl_gx (ox_geq rfl rfl rfl) rfl rfl rfl rfl rfl rfl ?_
              refine wl_gx (ox_move rfl rfl) rfl rfl rfl rfl rfl rfl ?_
              refine wl_split (t := 135) rfl (fun g2 => ?_) (fun g2 => ?_)
              · skip
                refine wl_gx (ox_move rfl rfl) rfl rfl rfl rfl rfl rfl ?_
                refine wl_gx (ox_move rfl rfl) rfl rfl rfl rfl rfl rfl ?_
                first | refine wl_gx (ox_index _ rfl Try.underlying23 el3 rfl rfl rfl (by omega)) rfl rfl rfl rfl rfl rfl ?_ | refine wl_gx (ox_indexR _ hRC.rd.any rfl Try.underlying23 el3 rfl rfl rfl (by omega)) rfl rfl rfl rfl rfl rfl ?_
                refine wl_gx (ox_load rfl Try.underlying3 rfl rfl (by first | exact hRC.any.cell0 hic rfl)) rfl rfl rfl rfl rfl rfl ?_
                refine wl_gx (ox_move rfl rfl) rfl rfl rfl rfl rfl rfl ?_
                refine wl_gx (ox_geq rfl rfl rfl) rfl rfl rfl rfl rfl rfl ?_
                refine wl_gx (ox_pick_t rfl rfl rfl) rfl rfl rfl rfl rfl rfl ?_
                refine wl_x (ox_pick_f rfl rfl rfl) rfl rfl rfl ?_
                refine wl_nil ?_
                refine nx_then ?_
                refine ws_if rfl (fun g3 => ?_) (fun g3 => ?_)
                · skip
                  have hBst' := hBst.skip fun hk h5 h6 => by omega
                  refine ws_exit ?_
                  refine nx_then_exit ?_
                  refine nx_block_exit ?_
                  refine nx_then ?_
                  refine ws_region ?_
                  refine wl_x (ox_move rfl rfl) rfl rfl rfl ?_
                  refine wl_x (ox_add rfl rfl rfl (by omega)) rfl rfl rfl ?_
                  refine wl_x (ox_assign rfl rfl) rfl rfl rfl ?_
                  refine wl_nil ?_
                  refine nx_round (C.length - (i + 1)) _ (by omega) ⟨i + 1, best, rfl, rfl, rfl, rfl, by omega, hBst'⟩ (by repeat (first | exact trivial | refine ⟨rfl, ?_⟩))
                · skip
                  have g4 : 0 ≤ best → C[i] ≤ best := fun _ => by omega
                  refine ws_skip ?_
                  refine nx_then ?_
                  refine ws_seq ?_
                  refine ws_region ?_
                  refine wl_x (ox_move rfl rfl) rfl rfl rfl ?_
                  refine wl_x (ox_move rfl rfl) rfl rfl rfl ?_
                  refine wl_x (ox_move rfl rfl) rfl rfl rfl ?_
                  refine wl_x (ox_move rfl rfl) rfl rfl rfl ?_
                  first | refine wl_x (ox_index _ rfl Try.underlying23 el3 rfl rfl rfl (by omega)) rfl rfl rfl ?_ | refine wl_x (ox_indexR _ hRC.rd.any rfl Try.underlying23 el3 rfl rfl rfl (by omega)) rfl rfl rfl ?_
                  refine wl_x (ox_load rfl Try.underlying3 rfl rfl (by first | exact hRC.any.cell0 hic rfl)) rfl rfl rfl ?_
                  refine wl_x (ox_call rfl Try.call42 rfl (covered_v p q vp vq _ h7 hRp hRq (by omega) (by omega) hpA hqB _)) rfl rfl rfl ?_
                  refine wl_x (ox_assign rfl rfl) rfl rfl rfl ?_
                  refine wl_nil ?_
                  refine nx_then ?_
                  refine ws_seq ?_
                  refine ws_region ?_
                  refine wl_x (ox_move rfl rfl) rfl rfl rfl ?_
                  refine wl_x (ox_move rfl rfl) rfl rfl rfl ?_
                  refine wl_x (ox_move rfl rfl) rfl rfl rfl ?_
                  refine wl_x (ox_move rfl rfl) rfl rfl rfl ?_
                  first | refine wl_x (ox_index _ rfl Try.underlying23 el3 rfl rfl rfl (by omega)) rfl rfl rfl ?_ | refine wl_x (ox_indexR _ hRC.rd.any rfl Try.underlying23 el3 rfl rfl rfl (by omega)) rfl rfl rfl ?_
                  refine wl_x (ox_load rfl Try.underlying3 rfl rfl (by first | exact hRC.any.cell0 hic rfl)) rfl rfl rfl ?_
                  refine wl_x (ox_call rfl Try.call42 rfl (covered_v q p vq vp _ h7 hRq hRp (by omega) (by omega) hqB hpA _)) rfl rfl rfl ?_
                  refine wl_x (ox_assign rfl rfl) rfl rfl rfl ?_
                  refine wl_nil ?_
                  refine nx_then ?_
                  refine ws_seq ?_
                  refine ws_region ?_
                  refine wl_x (ox_move rfl rfl) rfl rfl rfl ?_
                  refine wl_x (ox_move rfl rfl) rfl rfl rfl ?_
                  refine wl_splitb (t := 159) rfl (fun c1 => ?_) (fun c1 => ?_)
                  · skip
                    refine wl_gx (ox_move rfl rfl) rfl rfl rfl rfl rfl rfl ?_
                    refine wl_x (ox_pick_t rfl rfl rfl) rfl rfl rfl ?_
                    refine wl_nil ?_
                    refine nx_then ?_
                    refine ws_cond rfl (fun c2 => ?_) (fun c2 => ?_)
                    · skip
                      have hBst' := hBst.take b3.1 hic (by omega) (cposB_and.2 ⟨c1, c2⟩) g4
                      refine ws_region ?_
                      refine wl_x (ox_move rfl rfl) rfl rfl rfl ?_
                      refine wl_x (ox_move rfl rfl) rfl rfl rfl ?_
                      first | refine wl_x (ox_index _ rfl Try.underlying23 el3 rfl rfl rfl (by omega)) rfl rfl rfl ?_ | refine wl_x (ox_indexR _ hRC.rd.any rfl Try.underlying23 el3 rfl rfl rfl (by omega)) rfl rfl rfl ?_
                      refine wl_x (ox_load rfl Try.underlying3 rfl rfl (by first | exact hRC.any.cell0 hic rfl)) rfl rfl rfl ?_
                      refine wl_x (ox_assign rfl rfl) rfl rfl rfl ?_
                      refine wl_nil ?_
                      refine nx_block ?_
                      refine nx_then ?_
                      refine ws_region ?_
                      refine wl_x (ox_move rfl rfl) rfl rfl rfl ?_
                      refine wl_x (ox_add rfl rfl rfl (by omega)) rfl rfl rfl ?_
                      refine wl_x (ox_assign rfl rfl) rfl rfl rfl ?_
                      refine wl_nil ?_
                      refine nx_round (C.length - (i + 1)) _ (by omega) ⟨i + 1, C[i], rfl, rfl, rfl, rfl, by omega, hBst'⟩ (by repeat (first | exact trivial | refine ⟨rfl, ?_⟩))
                    · skip
                      have hBst' := hBst.skip fun hk h5 h6 => by have := (cposB_and.1 h6).2; rw [c2] at this; cases this
                      refine ws_skip ?_
                      refine nx_block ?_
                      refine nx_then ?_
                      refine ws_region ?_
                      refine wl_x (ox_move rfl rfl) rfl rfl rfl ?_
                      refine wl_x (ox_add rfl rfl rfl (by omega)) rfl rfl rfl ?_
                      refine wl_x (ox_assign rfl rfl) rfl rfl rfl ?_
                      refine wl_nil ?_
                      refine nx_round (C.length - (i + 1)) _ (by omega) ⟨i + 1, best, rfl, rfl, rfl, rfl, by omega, hBst'⟩ (by repeat (first | exact trivial | refine ⟨rfl, ?_⟩))
                  · skip
                    have hBst' := hBst.skip fun hk h5 h6 => by have := (cposB_and.1 h6).1; rw [c1] at this; cases this
                    refine wl_skip rfl rfl rfl rfl rfl rfl rfl ?_
                    refine wl_x (ox_pick_f rfl rfl rfl) rfl rfl rfl ?_
                    refine wl_nil ?_
                    refine nx_then ?_
                    refine ws_cond_f rfl ?_
                    refine ws_skip ?_
                    refine nx_block ?_
                    refine nx_then ?_
                    refine ws_region ?_
                    refine wl_x (ox_move rfl rfl) rfl rfl rfl ?_
                    refine wl_x (ox_add rfl rfl rfl (by omega)) rfl rfl rfl ?_
                    refine wl_x (ox_assign rfl rfl) rfl rfl rfl ?_
                    refine wl_nil ?_
                    refine nx_round (C.length - (i + 1)) _ (by omega) ⟨i + 1, best, rfl, rfl, rfl, rfl, by omega, hBst'⟩ (by repeat (first | exact trivial | refine ⟨rfl, ?_⟩))
              · skip
                have g4 : 0 ≤ best → C[i] ≤ best := fun _ => by omega
                refine wl_skip rfl rfl rfl rfl rfl rfl rfl ?_
                refine wl_skip rfl rfl rfl rfl rfl rfl rfl ?_
                refine wl_skip rfl rfl rfl rfl rfl rfl rfl ?_
                refine wl_skip rfl rfl rfl rfl rfl rfl rfl ?_
                refine wl_skip rfl rfl rfl rfl rfl rfl rfl ?_
                refine wl_skip rfl rfl rfl rfl rfl rfl rfl ?_
                refine wl_gx (ox_pick_f rfl rfl rfl) rfl rfl rfl rfl rfl rfl ?_
                refine wl_x (ox_pick_f rfl rfl rfl) rfl rfl rfl ?_
                refine wl_nil ?_
                refine nx_then ?_
                refine ws_cond_f rfl ?_
                refine ws_skip ?_
                refine nx_then ?_
                refine ws_seq ?_
                refine ws_region ?_
                refine wl_x (ox_move rfl rfl) rfl rfl rfl ?_
                refine wl_x (ox_move rfl rfl) rfl rfl rfl ?_
                refine wl_x (ox_move rfl rfl) rfl rfl rfl ?_
                refine wl_x (ox_move rfl rfl) rfl rfl rfl ?_
                first | refine wl_x (ox_index _ rfl Try.underlying23 el3 rfl rfl rfl (by omega)) rfl rfl rfl ?_ | refine wl_x (ox_indexR _ hRC.rd.any rfl Try.underlying23 el3 rfl rfl rfl (by omega)) rfl rfl rfl ?_
                refine wl_x (ox_load rfl Try.underlying3 rfl rfl (by first | exact hRC.any.cell0 hic rfl)) rfl rfl rfl ?_
                refine wl_x (ox_call rfl Try.call42 rfl (covered_v p q vp vq _ h7 hRp hRq (by omega) (by omega) hpA hqB _)) rfl rfl rfl ?_
                refine wl_x (ox_assign rfl rfl) rfl rfl rfl ?_
                refine wl_nil ?_
                refine nx_then ?_
                refine ws_seq ?_
                refine ws_region ?_
                refine wl_x (ox_move rfl rfl) rfl rfl rfl ?_
                refine wl_x (ox_move rfl rfl) rfl rfl rfl ?_
                refine wl_x (ox_move rfl rfl) rfl rfl rfl ?_
                refine wl_x (ox_move rfl rfl) rfl rfl rfl ?_
                first | refine wl_x (ox_index _ rfl Try.underlying23 el3 rfl rfl rfl (by omega)) rfl rfl rfl ?_ | refine wl_x (ox_indexR _ hRC.rd.any rfl Try.underlying23 el3 rfl rfl rfl (by omega)) rfl rfl rfl ?_
                refine wl_x (ox_load rfl Try.underlying3 rfl rfl (by first | exact hRC.any.cell0 hic rfl)) rfl rfl rfl ?_
                refine wl_x (ox_call rfl Try.call42 rfl (covered_v q p vq vp _ h7 hRq hRp (by omega) (by omega) hqB hpA _)) rfl rfl rfl ?_
                refine wl_x (ox_assign rfl rfl) rfl rfl rfl ?_
                refine wl_nil ?_
                refine nx_then ?_
                refine ws_seq ?_
                refine ws_region ?_
                refine wl_x (ox_move rfl rfl) rfl rfl rfl ?_
                refine wl_x (ox_move rfl rfl) rfl rfl rfl ?_
                refine wl_splitb (t := 159) rfl (fun c1 => ?_) (fun c1 => ?_)
                · skip
                  refine wl_gx (ox_move rfl rfl) rfl rfl rfl rfl rfl rfl ?_
                  refine wl_x (ox_pick_t rfl rfl rfl) rfl rfl rfl ?_
                  refine wl_nil ?_
                  refine nx_then ?_
                  refine ws_cond rfl (fun c2 => ?_) (fun c2 => ?_)
                  · skip
                    have hBst' := hBst.take b3.1 hic (by omega) (cposB_and.2 ⟨c1, c2⟩) g4
                    refine ws_region ?_
                    refine wl_x (ox_move rfl rfl) rfl rfl rfl ?_
                    refine wl_x (ox_move rfl rfl) rfl rfl rfl ?_
                    first | refine wl_x (ox_index _ rfl Try.underlying23 el3 rfl rfl rfl (by omega)) rfl rfl rfl ?_ | refine wl_x (ox_indexR _ hRC.rd.any rfl Try.underlying23 el3 rfl rfl rfl (by omega)) rfl rfl rfl ?_
                    refine wl_x (ox_load rfl Try.underlying3 rfl rfl (by first | exact hRC.any.cell0 hic rfl)) rfl rfl rfl ?_
                    refine wl_x (ox_assign rfl rfl) rfl rfl rfl ?_
                    refine wl_nil ?_
                    refine nx_block ?_
                    refine nx_then ?_
                    refine ws_region ?_
                    refine wl_x (ox_move rfl rfl) rfl rfl rfl ?_
                    refine wl_x (ox_add rfl rfl rfl (by omega)) rfl rfl rfl ?_
                    refine wl_x (ox_assign rfl rfl) rfl rfl rfl ?_
                    refine wl_nil ?_
                    refine nx_round (C.length - (i + 1)) _ (by omega) ⟨i + 1, C[i], rfl, rfl, rfl, rfl, by omega, hBst'⟩ (by repeat (first | exact trivial | refine ⟨rfl, ?_⟩))
                  · skip
                    have hBst' := hBst.skip fun hk h5 h6 => by have := (cposB_and.1 h6).2; rw [c2] at this; cases this
                    refine ws_skip ?_
                    refine nx_block ?_
                    refine nx_then ?_
                    refine ws_region ?_
                    refine wl_x (ox_move rfl rfl) rfl rfl rfl ?_
                    refine wl_x (ox_add rfl rfl rfl (by omega)) rfl rfl rfl ?_
                    refine wl_x (ox_assign rfl rfl) rfl rfl rfl ?_
                    refine wl_nil ?_
                    refine nx_round (C.length - (i + 1)) _ (by omega) ⟨i + 1, best, rfl, rfl, rfl, rfl, by omega, hBst'⟩ (by repeat (first | exact trivial | refine ⟨rfl, ?_⟩))
                · skip
                  have hBst' := hBst.skip fun hk h5 h6 => by have := (cposB_and.1 h6).1; rw [c1] at this; cases this
                  refine wl_skip rfl rfl rfl rfl rfl rfl rfl ?_
                  refine wl_x (ox_pick_f rfl rfl rfl) rfl rfl rfl ?_
                  refine wl_nil ?_
                  refine nx_then ?_
                  refine ws_cond_f rfl ?_
                  refine ws_skip ?_
                  refine nx_block ?_
                  refine nx_then ?_
                  refine ws_region ?_
                  refine wl_x (ox_move rfl rfl) rfl rfl rfl ?_
                  refine wl_x (ox_add rfl rfl rfl (by omega)) rfl rfl rfl ?_
                  refine wl_x (ox_assign rfl rfl) rfl rfl rfl ?_
                  refine wl_nil ?_
                  refine nx_round (C.length - (i + 1)) _ (by omega) ⟨i + 1, best, rfl, rfl, rfl, rfl, by omega, hBst'⟩ (by repeat (first | exact trivial | refine ⟨rfl, ?_⟩))
          · skip
            have hiC : i = C.length := by omega
            subst hiC
            obtain ⟨cl1, cl2⟩ := costs_len p q L
            have hLC : L ∈ costsOf p q L := by unfold costsOf; simp
            obtain ⟨M, hMC, hM⟩ : ∃ M ∈ costsOf p q L, ∀ c ∈ costsOf p q L, c ≤ M := max_mem _ (List.ne_nil_of_mem hLC)
            have hlast : Pos (fitsD p q M) (p.length + q.length) := pos_max p q _ (fun b hb => hM _ (cl1 b hb)) (fun b hb => hM _ (cl2 b hb))
            have hID : IsDist p q L best := by
              rcases hBst with ⟨h1, h2⟩ | ⟨h0, h1, h2, h3, h4⟩
              · obtain ⟨j, hj, e⟩ := List.getElem_of_mem ((hCm M).2 hMC)
                exact absurd (by rw [e]; exact hlast) (h2 j hj hj (by rw [e]; exact hM _ hLC))
              · refine ⟨(hCm _).1 h1, h2, h3, fun c hc h5 h6 => ?_⟩
                obtain ⟨j, hj, rfl⟩ := List.getElem_of_mem ((hCm c).2 hc)
                exact h4 j hj hj h5 h6
            refine ws_exit ?_
            refine nx_then_exit ?_
            refine nx_then_exit ?_
            refine nx_block_exit ?_
            refine nx_then ?_
            refine ws_seq ?_
            refine ws_region ?_
            refine wl_x (ox_move rfl rfl) rfl rfl rfl ?_
            refine wl_x (ox_assign rfl rfl) rfl rfl rfl ?_
            refine wl_x (ox_assign rfl rfl) rfl rfl rfl ?_
            refine wl_nil ?_
            refine nx_then ?_
            refine ws_ret ?_
            exact nx_ret2 rfl rfl rfl (⟨best, true, rfl, fun h => absurd hlen h, fun _ => ⟨rfl, hID⟩⟩)
end Go.Proofs.Ythdkhnjnhhofgaa
