/- Walks: the distance. -/
import Derived.Test.YthdkhnjnhhofgaaWg
set_option linter.unusedSimpArgs false
set_option linter.unusedVariables false
set_option maxRecDepth 100000
namespace Go.Proofs.Ythdkhnjnhhofgaa
open Go.Eng Go.RowKit Go.Kuhn

def leastOf (l : List (Int × Int)) : Int := l.foldl (fun m p => max m (2 * iabs (p.1 - p.2))) 0
def costsOf (p q : List Br) (m : Int) : List Int := m :: (p.flatMap fun x => x.len :: q.map x.apart) ++ q.map Br.len
/-- The costs that are tried. -/
def tried (p q : List Br) (m : Int) : List Int := Lib.compact ((isort (costsOf p q m)).filter fun n => decide (m ≤ n))

theorem leastOf_snoc (l : List (Int × Int)) (p : Int × Int) : leastOf (l ++ [p]) = max (leastOf l) (2 * iabs (p.1 - p.2)) := by simp [leastOf]
theorem foldl_bd (M : Int) : ∀ (l : List (Int × Int)) (a : Int), 0 ≤ a → a ≤ M → (∀ p ∈ l, 2 * iabs (p.1 - p.2) ≤ M) → 0 ≤ l.foldl (fun m p => max m (2 * iabs (p.1 - p.2))) a ∧ l.foldl (fun m p => max m (2 * iabs (p.1 - p.2))) a ≤ M
  | [], a, h1, h2, _ => ⟨h1, h2⟩
  | p :: l, a, h1, h2, h => foldl_bd M l _ (by show 0 ≤ max a _; omega) (by have := h p (by simp); show max a (2 * iabs (p.1 - p.2)) ≤ M; omega) fun q hq => h q (by simp [hq])
theorem leastOf_bd (l : List (Int × Int)) (h : ∀ p ∈ l, iabs (p.1 - p.2) ≤ 2000000000000) : 0 ≤ leastOf l ∧ leastOf l ≤ 4000000000000 :=
  foldl_bd 4000000000000 l 0 (by omega) (by omega) fun p hp => by have := h p hp; omega
theorem birthsOf_bd (dim : Int) (l : List Br) (h : ∀ b ∈ l, BOk b) : ∀ x ∈ birthsOf dim l, -1000000000000 ≤ x ∧ x ≤ 1000000000000 := by
  intro x hx
  have := (isort_perm _).mem_iff.1 hx
  obtain ⟨b, hb, rfl⟩ := List.mem_map.1 this
  have := h b (List.mem_filter.1 hb).1
  exact ⟨this.b1, this.b2⟩

theorem birthsOf_len (dim : Int) (l : List Br) : (birthsOf dim l).length ≤ l.length := by
  unfold birthsOf
  rw [(isort_perm _).length_eq, List.length_map]
  exact List.length_filter_le _ _
theorem own_one (g : Nat) (x : Int) : OwnL cI 1 3 (Blk g 3 [.int .i64 x]) (.slice (some ⟨g, 0, none⟩) 1 1) [x] :=
  ⟨⟨rfl, .inr ⟨g, 1, [], rfl, rfl, rfl, Nat.le_refl _, by omega⟩⟩, cI_len⟩
theorem len_bd {b : Br} (h : BOk b) : -2000000000000 ≤ b.len ∧ b.len ≤ 2000000000000 := by
  obtain ⟨h1, h2, h3, h4⟩ := h; unfold Br.len; omega

theorem fitsD_mono {p q : List Br} {c c' : Int} (h : c ≤ c') (i k : Nat) (hf : fitsD p q c i k = true) : fitsD p q c' i k = true := by
  unfold fitsD at *
  split
  · rename_i h1; rw [dif_pos h1] at hf; have := of_decide_eq_true hf; exact decide_eq_true (by omega)
  · rename_i h1
    rw [dif_neg h1] at hf
    split
    · rename_i h2; rw [dif_pos h2] at hf; have := of_decide_eq_true hf; exact decide_eq_true (by omega)
    · rename_i h2
      rw [dif_neg h2] at hf
      split
      · rename_i h3; rw [dif_pos h3] at hf; have := of_decide_eq_true hf; exact decide_eq_true (by omega)
      · rfl
/-- At a cost that no length passes everyone has a place of his own. -/
theorem pos_max (p q : List Br) (c : Int) (hp : ∀ b ∈ p, b.len ≤ c) (hq : ∀ b ∈ q, b.len ≤ c) : Pos (fitsD p q c) (p.length + q.length) := by
  refine ⟨(List.range q.length).map (fun k => ((p.length + k : Nat) : Int)) ++ (List.range p.length).map (fun k : Nat => (k : Int)), by simp; omega, fun k hk => ?_, fun x hx => ?_⟩
  · right
    rw [List.getElem_append]
    split
    · rename_i h1
      have h1' : k < q.length := by simpa using h1
      refine ⟨p.length + k, by simp, by omega, ?_⟩
      unfold fitsD
      rw [dif_neg (by omega), dif_neg (by omega), dif_pos h1']
      exact decide_eq_true (hq _ (List.getElem_mem h1'))
    · rename_i h1
      have h1' : q.length ≤ k := by simpa using h1
      have h2' : k - q.length < p.length := by simp at hk; omega
      refine ⟨k - q.length, by simp, by omega, ?_⟩
      unfold fitsD
      rw [dif_neg (by omega), dif_pos h2']
      exact decide_eq_true (hp _ (List.getElem_mem h2'))
  · have hn : ((List.range q.length).map (fun k => ((p.length + k : Nat) : Int)) ++ (List.range p.length).map (fun k : Nat => (k : Int))).Nodup := by
      refine List.nodup_append.2 ⟨List.pairwise_map.2 (List.nodup_range.imp fun h e => h (by omega)), List.pairwise_map.2 (List.nodup_range.imp fun h e => h (by omega)), fun a ha b hb e => ?_⟩
      obtain ⟨i, hi, rfl⟩ := List.mem_map.1 ha
      obtain ⟨j, hj, rfl⟩ := List.mem_map.1 hb
      simp at hi hj; omega
    have hm : (x : Int) ∈ (List.range q.length).map (fun k => ((p.length + k : Nat) : Int)) ++ (List.range p.length).map (fun k : Nat => (k : Int)) := by
      rw [List.mem_append]
      rcases Nat.lt_or_ge x p.length with h | h
      · exact .inr (List.mem_map.2 ⟨x, by simpa using h, rfl⟩)
      · exact .inl (List.mem_map.2 ⟨x - p.length, by simp; omega, by simp; omega⟩)
    have h1 := List.nodup_iff_count.1 hn (x : Int)
    have h2 := List.count_pos_iff.2 hm
    omega
/-- The least of the costs at which everyone has a partner. -/
def IsDist (p q : List Br) (L d : Int) : Prop := d ∈ costsOf p q L ∧ L ≤ d ∧ Pos (fitsD p q d) (p.length + q.length) ∧ ∀ c ∈ costsOf p q L, L ≤ c → Pos (fitsD p q c) (p.length + q.length) → d ≤ c
theorem tried_mem (p q : List Br) (L c : Int) : c ∈ tried p q L ↔ c ∈ costsOf p q L ∧ L ≤ c := by
  unfold tried
  rw [compact_mem, List.mem_filter, (isort_perm _).mem_iff]; simp
theorem tried_sorted (p q : List Br) (L : Int) : (tried p q L).Pairwise (· ≤ ·) := by
  unfold tried
  exact ((isort_sorted _).filter _).sublist (compact_sublist _)
theorem costs_len (p q : List Br) (L : Int) : (∀ b ∈ p, b.len ∈ costsOf p q L) ∧ (∀ b ∈ q, b.len ∈ costsOf p q L) := by
  unfold costsOf
  constructor
  · intro b hb
    refine List.mem_append_left _ (List.mem_cons_of_mem _ (List.mem_flatMap.2 ⟨b, hb, by simp⟩))
  · intro b hb
    exact List.mem_append_right _ (List.mem_map.2 ⟨b, hb, rfl⟩)
theorem sorted_get {l : List Int} (h : l.Pairwise (· ≤ ·)) {i j : Nat} (hij : i ≤ j) (hj : j < l.length) : l[i]'(by omega) ≤ l[j] := by
  rcases Nat.lt_or_ge i j with h1 | h1
  · exact List.pairwise_iff_getElem.1 h i j (by omega) hj h1
  · have : i = j := by omega
    subst this; exact Int.le_refl _

theorem distance_ok (la lb : List Br) (va vb : Value) (dim : Int) (h : Hp) (hRa : RdL cBr 6 h [] va la) (hRb : RdL cBr 6 h [] vb lb) (hla : la.length ≤ 10000) (hlb : lb.length ≤ 10000) (hA : ∀ b ∈ la, BOk b) (hB : ∀ b ∈ lb, BOk b) :
    FnT Try.prog 12 #[va, vb, .int .i64 dim] h [] (fun r _ _ => ∃ (d : Int) (e : Bool), r = .tuple #[.int .i64 d, .bool e] ∧ ((birthsOf dim la).length ≠ (birthsOf dim lb).length → d = 0 ∧ e = false) ∧ ((birthsOf dim la).length = (birthsOf dim lb).length → e = true ∧ IsDist (la.filter (Br.finIn dim)) (lb.filter (Br.finIn dim)) (leastOf ((birthsOf dim la).zip (birthsOf dim lb))) d)) := by
  refine fn_enter Try.func12 Try.ntmps12 rfl rfl (fun w0 hw0 => ?_)
  simp only [argS]
  refine ws_seq ?_
  refine ws_region ?_
  refine wl_box [_] rfl rfl (by first | rfl | exact Rd.cells ‹_› | exact (RdL.rd ‹_›).cells) rfl rfl rfl (fun g5 => ?_)
  refine wl_freezeB (fun h1 l1 s5 => ?_)
  have c5 : Cell h1 [] ⟨g5, 0, none⟩ (.int .i64 dim) := s5.at0 rfl
  have hRa1 := hRa.up l1
  have hRb1 := hRb.up l1
  refine wl_x (ox_assign rfl rfl) rfl rfl rfl ?_
  refine wl_x (ox_assign rfl rfl) rfl rfl rfl ?_
  refine wl_nil ?_
  refine nx_then ?_
  refine ws_seq ?_
  refine ws_region ?_
  refine wl_x (ox_makeFunc rfl rfl rfl) rfl rfl rfl ?_
  refine wl_x (ox_assign rfl rfl) rfl rfl rfl ?_
  refine wl_nil ?_
  refine nx_then ?_
  refine ws_seq ?_
  refine ws_region ?_
  refine wl_x (ox_move rfl rfl) rfl rfl rfl ?_
  refine wl_x (ox_move rfl rfl) rfl rfl rfl ?_
  refine wl_callv_ (pre := []) rfl rfl Try.call25 rfl (births_ok la va g5 dim h1 hRa1 (by omega) c5) rfl rfl rfl rfl (fun vx h2 _ l2 hL => ?_)
  obtain ⟨rfl, hRx⟩ := hL
  refine wl_x (ox_move rfl rfl) rfl rfl rfl ?_
  refine wl_x (ox_move rfl rfl) rfl rfl rfl ?_
  refine wl_callv_ (pre := []) rfl rfl Try.call25 rfl (births_ok lb vb g5 dim h2 (hRb1.up l2) (by omega) (c5.le l2)) rfl rfl rfl rfl (fun vy h3 _ l3 hL => ?_)
  obtain ⟨rfl, hRy⟩ := hL
  have hRx := hRx.up l3
  have hxb := birthsOf_bd dim la hA
  have hyb := birthsOf_bd dim lb hB
  have hxl := birthsOf_len dim la
  have hyl := birthsOf_len dim lb
  generalize hX : birthsOf dim la = X at hRx hxb hxl ⊢
  generalize hY : birthsOf dim lb = Y at hRy hyb hyl ⊢
  have c5 := c5.le (Hp.le_trans l2 l3)
  have hRa1 := hRa1.up (Hp.le_trans l2 l3)
  have hRb1 := hRb1.up (Hp.le_trans l2 l3)
  clear s5 l1 hRa hRb l2 l3
  refine wl_x (ox_assign rfl rfl) rfl rfl rfl ?_
  refine wl_x (ox_assign rfl rfl) rfl rfl rfl ?_
  refine wl_nil ?_
  refine nx_then ?_
  refine ws_seq ?_
  refine ws_seq ?_
  refine ws_region ?_
  refine wl_x (ox_move rfl rfl) rfl rfl rfl ?_
  first | refine wl_x (ox_len (ty := 23) rfl Try.underlying23 rfl) rfl rfl rfl ?_ | refine wl_x (ox_lenR hRx.rd.any rfl Try.underlying23 rfl) rfl rfl rfl ?_ | refine wl_x (ox_lenR hRy.rd.any rfl Try.underlying23 rfl) rfl rfl rfl ?_
  refine wl_x (ox_move rfl rfl) rfl rfl rfl ?_
  first | refine wl_x (ox_len (ty := 23) rfl Try.underlying23 rfl) rfl rfl rfl ?_ | refine wl_x (ox_lenR hRx.rd.any rfl Try.underlying23 rfl) rfl rfl rfl ?_ | refine wl_x (ox_lenR hRy.rd.any rfl Try.underlying23 rfl) rfl rfl rfl ?_
  refine wl_x (ox_nei rfl rfl rfl) rfl rfl rfl ?_
  refine wl_nil ?_
  refine nx_then ?_
  have hZ : ∀ p ∈ X.zip Y, iabs (p.1 - p.2) ≤ 2000000000000 := fun p hp => by
    have h1 := hxb _ (List.of_mem_zip hp).1
    have h2 := hyb _ (List.of_mem_zip hp).2
    unfold iabs; omega
  refine ws_if rfl (fun hne => ?_) (fun hne => ?_)
  · skip
    refine ws_seq ?_
    refine ws_region ?_
    refine wl_x (ox_assign rfl rfl) rfl rfl rfl ?_
    refine wl_x (ox_assign rfl rfl) rfl rfl rfl ?_
    refine wl_nil ?_
    refine nx_then ?_
    refine ws_ret ?_
    refine nx_then_ret ?_
    exact nx_ret2 rfl rfl rfl (⟨0, false, rfl, fun _ => ⟨rfl, rfl⟩, fun h => absurd h (by omega)⟩)
  · skip
    have hlen : X.length = Y.length := by omega
    refine ws_skip ?_
    refine nx_then ?_
    refine ws_seq ?_
    refine ws_region ?_
    refine wl_alloc [.int .i64 0] rfl el3 rfl rfl rfl rfl (fun g11 => ?_)
    first | refine wl_storeAt 0 0 rfl el3 rfl rfl (by first | rfl | exact Rd.one ‹_› | exact (RdL.rd ‹_›).one) rfl rfl (by first | decide | (simp; done) | (simp; omega)) rfl rfl ?_ | refine wl_storeAt 1 0 rfl el3 rfl rfl (by first | rfl | exact Rd.one ‹_› | exact (RdL.rd ‹_›).one) rfl rfl (by first | decide | (simp; done) | (simp; omega)) rfl rfl ?_ | refine wl_storeAt 2 0 rfl el3 rfl rfl (by first | rfl | exact Rd.one ‹_› | exact (RdL.rd ‹_›).one) rfl rfl (by first | decide | (simp; done) | (simp; omega)) rfl rfl ?_ | refine wl_storeAt 3 0 rfl el3 rfl rfl (by first | rfl | exact Rd.one ‹_› | exact (RdL.rd ‹_›).one) rfl rfl (by first | decide | (simp; done) | (simp; omega)) rfl rfl ?_ | refine wl_storeAt 4 0 rfl el3 rfl rfl (by first | rfl | exact Rd.one ‹_› | exact (RdL.rd ‹_›).one) rfl rfl (by first | decide | (simp; done) | (simp; omega)) rfl rfl ?_
    refine wl_nil ?_
    refine nx_then ?_
    refine ws_seq ?_
    refine ws_seq ?_
    refine ws_region ?_
    refine wl_x (ox_move rfl rfl) rfl rfl rfl ?_
    first | refine wl_x (ox_len (ty := 23) rfl Try.underlying23 rfl) rfl rfl rfl ?_ | refine wl_x (ox_lenR hRx.rd.any rfl Try.underlying23 rfl) rfl rfl rfl ?_ | refine wl_x (ox_lenR hRy.rd.any rfl Try.underlying23 rfl) rfl rfl rfl ?_
    refine wl_x (ox_move rfl rfl) rfl rfl rfl ?_
    refine wl_nil ?_
    refine nx_then ?_
    refine ws_block ?_
    refine ws_loop (fun q s h' ms' => ∃ (k : Nat), q = X.length - k ∧ s = [(0, va), (1, vb), (5, .pointer (some ⟨g5, 0, none⟩)), (9, vx), (10, vy), (11, .pointer (some ⟨g11, 0, none⟩)), (39, .int .i64 X.length), (40, .int .i64 k)] ∧ h3 = h' ∧ ms' = [Blk g11 3 [.int .i64 (leastOf ((X.zip Y).take k))]] ∧ k ≤ X.length)
      (X.length - 0) _ ⟨0, rfl, rfl, rfl, rfl, by omega⟩ (by repeat (first | exact trivial | refine ⟨rfl, ?_⟩)) ?_
    rintro q s h' ms' ⟨k, rfl, rfl, rfl, rfl, hk⟩
    refine ws_seq ?_
    refine ws_region ?_
    refine wl_x (ox_lss rfl rfl rfl) rfl rfl rfl ?_
    refine wl_nil ?_
    refine nx_then ?_
    refine ws_seq ?_
    refine ws_if rfl (fun hlt => ?_) (fun hlt => ?_)
    · skip
      have hkx : k < X.length := by omega
      have hky : k < Y.length := by omega
      have hkz : k < (X.zip Y).length := by simp; omega
      have b1 := hxb _ (List.getElem_mem hkx)
      have b2 := hyb _ (List.getElem_mem hky)
      have b3 := leastOf_bd ((X.zip Y).take k) fun p hp => hZ p (List.mem_of_mem_take hp)
      have b4 : iabs (X[k] - Y[k]) ≤ 2000000000000 ∧ 0 ≤ iabs (X[k] - Y[k]) := by unfold iabs; omega
      have hst : (X.zip Y).take (k + 1) = (X.zip Y).take k ++ [(X[k], Y[k])] := by rw [List.take_succ_eq_append_getElem hkz]; simp
      refine ws_skip ?_
      refine nx_then ?_
      refine ws_seq ?_
      refine ws_block ?_
      refine ws_seq ?_
      refine ws_region ?_
      refine wl_x (ox_move rfl rfl) rfl rfl rfl ?_
      refine wl_x (ox_assign rfl rfl) rfl rfl rfl ?_
      refine wl_nil ?_
      refine nx_then ?_
      refine ws_draw 12 fol (by kernel_rfl) rfl ?_
      simp only [List.take_succ_cons, List.take_zero, List.drop_succ_cons, List.drop_zero, List.take_nil, List.drop_nil]
      refine wr_x (ox_load rfl Try.underlying3 rfl rfl (by first | exact Cell.blk0 0 rfl rfl | exact Cell.blk0 1 rfl rfl | exact Cell.blk0 2 rfl rfl | exact Cell.blk0 3 rfl rfl | exact Cell.blk0 4 rfl rfl | exact hRx.any.cell0 hkx rfl | exact hRy.any.cell0 hky rfl)) rfl rfl ?_
      refine wr_x (ox_move rfl rfl) rfl rfl ?_
      refine wr_x (ox_move rfl rfl) rfl rfl ?_
      first | refine wr_x (ox_index _ rfl Try.underlying23 el3 rfl rfl rfl (by omega)) rfl rfl ?_ | refine wr_x (ox_indexR _ hRx.rd.any rfl Try.underlying23 el3 rfl rfl rfl (by omega)) rfl rfl ?_ | refine wr_x (ox_indexR _ hRy.rd.any rfl Try.underlying23 el3 rfl rfl rfl (by omega)) rfl rfl ?_
      refine wr_x (ox_load rfl Try.underlying3 rfl rfl (by first | exact hRx.any.cell0 hkx rfl | exact hRy.any.cell0 hky rfl)) rfl rfl ?_
      refine wr_x (ox_move rfl rfl) rfl rfl ?_
      refine wr_x (ox_move rfl rfl) rfl rfl ?_
      first | refine wr_x (ox_index _ rfl Try.underlying23 el3 rfl rfl rfl (by omega)) rfl rfl ?_ | refine wr_x (ox_indexR _ hRx.rd.any rfl Try.underlying23 el3 rfl rfl rfl (by omega)) rfl rfl ?_ | refine wr_x (ox_indexR _ hRy.rd.any rfl Try.underlying23 el3 rfl rfl rfl (by omega)) rfl rfl ?_
      refine wr_x (ox_load rfl Try.underlying3 rfl rfl (by first | exact hRx.any.cell0 hkx rfl | exact hRy.any.cell0 hky rfl)) rfl rfl ?_
      refine wr_x (ox_sub rfl rfl rfl (by omega)) rfl rfl ?_
      refine wr_x (ox_call rfl Try.call29 rfl (abs_ok _ (by omega) _ _)) rfl rfl ?_
      refine wr_x (ox_mul rfl rfl rfl (by omega)) rfl rfl ?_
      refine wr_nil ?_
      refine wl_x (ox_max rfl rfl rfl) rfl rfl rfl ?_
      first | refine wl_storeAt 0 0 rfl el3 rfl rfl (by first | rfl | exact Rd.one ‹_› | exact (RdL.rd ‹_›).one) rfl rfl (by first | decide | (simp; done) | (simp; omega)) rfl rfl ?_ | refine wl_storeAt 1 0 rfl el3 rfl rfl (by first | rfl | exact Rd.one ‹_› | exact (RdL.rd ‹_›).one) rfl rfl (by first | decide | (simp; done) | (simp; omega)) rfl rfl ?_ | refine wl_storeAt 2 0 rfl el3 rfl rfl (by first | rfl | exact Rd.one ‹_› | exact (RdL.rd ‹_›).one) rfl rfl (by first | decide | (simp; done) | (simp; omega)) rfl rfl ?_ | refine wl_storeAt 3 0 rfl el3 rfl rfl (by first | rfl | exact Rd.one ‹_› | exact (RdL.rd ‹_›).one) rfl rfl (by first | decide | (simp; done) | (simp; omega)) rfl rfl ?_ | refine wl_storeAt 4 0 rfl el3 rfl rfl (by first | rfl | exact Rd.one ‹_› | exact (RdL.rd ‹_›).one) rfl rfl (by first | decide | (simp; done) | (simp; omega)) rfl rfl ?_
      refine wl_nil ?_
      refine nx_block ?_
      refine nx_then ?_
      refine ws_region ?_
      refine wl_x (ox_add rfl rfl rfl (by omega)) rfl rfl rfl ?_
      refine wl_x (ox_move rfl rfl) rfl rfl rfl ?_
      refine wl_nil ?_
      refine nx_round (X.length - (k + 1)) _ (by omega) ⟨k + 1, rfl, rfl, rfl, by rw [hst, leastOf_snoc]; rfl, by omega⟩ (by repeat (first | exact trivial | refine ⟨rfl, ?_⟩))
    · skip
      have hkX : k = X.length := by omega
      have htk : (X.zip Y).take k = X.zip Y := List.take_of_length_le (by simp; omega)
      rw [htk]
      have b3 := leastOf_bd (X.zip Y) hZ
      generalize leastOf (X.zip Y) = L at b3 ⊢
      refine ws_exit ?_
      refine nx_then_exit ?_
      refine nx_then_exit ?_
      refine nx_block_exit ?_
      refine nx_then ?_
      refine ws_freezeB (fun h4 l4 s11 => ?_)
      have c11 : Cell h4 [] ⟨g11, 0, none⟩ (.int .i64 L) := s11.at0 rfl
      have c5 := c5.le l4
      have hRa1 := hRa1.up l4
      have hRb1 := hRb1.up l4
      refine ws_seq ?_
      refine ws_region ?_
      refine wl_x (ox_makeFunc rfl rfl rfl) rfl rfl rfl ?_
      refine wl_x (ox_assign rfl rfl) rfl rfl rfl ?_
      refine wl_nil ?_
      refine nx_then ?_
      refine ws_seq ?_
      refine ws_region ?_
      refine wl_x (ox_move rfl rfl) rfl rfl rfl ?_
      refine wl_x (ox_move rfl rfl) rfl rfl rfl ?_
      refine wl_call rfl Try.call26 rfl (filtered_ok la va 30 [Value.pointer (some ⟨g5, 0, none⟩)] (Br.finIn dim) h4 hRa1 (by omega) Try.call30 (fun b _ ms => finIn_ok b g5 dim h4 (fun _ => c5.any) ms)) rfl rfl rfl (fun vp h5 _ l5 hL => ?_)
      obtain ⟨rfl, hRp⟩ := hL
      refine wl_x (ox_move rfl rfl) rfl rfl rfl ?_
      refine wl_x (ox_move rfl rfl) rfl rfl rfl ?_
      refine wl_call rfl Try.call26 rfl (filtered_ok lb vb 30 [Value.pointer (some ⟨g5, 0, none⟩)] (Br.finIn dim) h5 (hRb1.up l5) (by omega) Try.call30 (fun b _ ms => finIn_ok b g5 dim h5 (fun _ => (c5.le l5).any) ms)) rfl rfl rfl (fun vq h6 _ l6 hL => ?_)
      obtain ⟨rfl, hRq⟩ := hL
      have hRp := hRp.up l6
      have c11 := c11.le (Hp.le_trans l5 l6)
      have hp1 : (la.filter (Br.finIn dim)).length ≤ la.length := List.length_filter_le _ _
      have hq1 : (lb.filter (Br.finIn dim)).length ≤ lb.length := List.length_filter_le _ _
      have hpA : ∀ b ∈ la.filter (Br.finIn dim), BOk b := fun b hb => hA b (List.mem_filter.1 hb).1
      have hqB : ∀ b ∈ lb.filter (Br.finIn dim), BOk b := fun b hb => hB b (List.mem_filter.1 hb).1
      generalize la.filter (Br.finIn dim) = p at hRp hp1 hpA ⊢
      generalize lb.filter (Br.finIn dim) = q at hRq hq1 hqB ⊢
      refine wl_x (ox_assign rfl rfl) rfl rfl rfl ?_
      refine wl_x (ox_assign rfl rfl) rfl rfl rfl ?_
      refine wl_nil ?_
      refine nx_then ?_
      refine ws_seq ?_
      refine ws_region ?_
      refine wl_x (ox_load rfl Try.underlying3 rfl rfl (by first | exact Cell.blk0 0 rfl rfl | exact Cell.blk0 1 rfl rfl | exact Cell.blk0 2 rfl rfl | exact Cell.blk0 3 rfl rfl | exact Cell.blk0 4 rfl rfl | exact c11.any)) rfl rfl rfl ?_
      refine wl_buildSlice1 [_] rfl Try.underlying23 el3 rfl (by first | rfl | exact Rd.cells ‹_› | exact (RdL.rd ‹_›).cells) rfl rfl (by omega) rfl rfl rfl (fun g65 => ?_)
      refine wl_x (ox_assign rfl rfl) rfl rfl rfl ?_
      refine wl_nil ?_
      refine nx_then ?_
      refine ws_seq ?_
      refine ws_seq ?_
      refine ws_region ?_
      refine wl_x (ox_move rfl rfl) rfl rfl rfl ?_
      first | refine wl_x (ox_len (ty := 25) rfl Try.underlying25 rfl) rfl rfl rfl ?_ | refine wl_x (ox_lenR hRp.rd.any rfl Try.underlying25 rfl) rfl rfl rfl ?_ | refine wl_x (ox_lenR hRq.rd.any rfl Try.underlying25 rfl) rfl rfl rfl ?_
      refine wl_x (ox_move rfl rfl) rfl rfl rfl ?_
      refine wl_nil ?_
      refine nx_then ?_
      refine ws_block ?_
      refine ws_loop (fun n s h' ms' => ∃ (k : Nat) (v : Value) (m : Hp) (C : List Int), n = p.length - k ∧ s = [(11, .pointer (some ⟨g11, 0, none⟩)), (14, vp), (15, vq), (16, v), (66, vp), (67, .int .i64 p.length), (68, .int .i64 k)] ∧ h6 = h' ∧ ms' = [m] ∧ k ≤ p.length ∧ OwnL cI 1 3 m v C ∧ C = L :: ((p.take k).flatMap fun x => x.len :: q.map x.apart) ∧ C.length ≤ 1 + k * 20000)
        (p.length - 0) _ ⟨0, _, _, [L], rfl, rfl, rfl, rfl, by omega, own_one _ _, rfl, by simp⟩ (by repeat (first | exact trivial | refine ⟨rfl, ?_⟩)) ?_
      rintro n s h' ms' ⟨k, v, m, C, rfl, rfl, rfl, rfl, hk, hO, hC, hCl⟩
      refine ws_seq ?_
      refine ws_region ?_
      refine wl_x (ox_lss rfl rfl rfl) rfl rfl rfl ?_
      refine wl_nil ?_
      refine nx_then ?_
      refine ws_seq ?_
      refine ws_if rfl (fun hltp => ?_) (fun hltp => ?_)
      · skip
        have hkp : k < p.length := by omega
        have hbk := hpA _ (List.getElem_mem hkp)
        have hts : (p.take (k + 1)).flatMap (fun x => x.len :: q.map x.apart) = (p.take k).flatMap (fun x => x.len :: q.map x.apart) ++ (p[k].len :: q.map p[k].apart) := by
          rw [List.take_succ_eq_append_getElem hkp, List.flatMap_append]; simp
        refine ws_skip ?_
        refine nx_then ?_
        refine ws_seq ?_
        refine ws_block ?_
        refine ws_seq ?_
        refine ws_region ?_
        first | refine wl_x (ox_index _ rfl Try.underlying25 el40 rfl rfl rfl (by omega)) rfl rfl rfl ?_ | refine wl_x (ox_indexR _ hRp.rd.any rfl Try.underlying25 el40 rfl rfl rfl (by omega)) rfl rfl rfl ?_ | refine wl_x (ox_indexR _ hRq.rd.any rfl Try.underlying25 el40 rfl rfl rfl (by omega)) rfl rfl rfl ?_
        refine wl_x (ox_loadG rfl Try.underlying40 rfl el40 rfl rfl (by first | exact Seg.blk 0 rfl | exact hRp.any.seg hkp)) rfl rfl rfl ?_
        refine wl_alloc [.int .i64 0, .int .i64 0, .int .i64 0, .bool false, .int .i64 0, .int .i64 0] rfl el40 rfl rfl rfl rfl (fun g18 => ?_)
        first | refine wl_storeAll 0 _ rfl el40 rfl rfl rfl (by exact cBr_one _) rfl (by first | rfl | simp) (by first | rfl | simp) rfl rfl ?_ | refine wl_storeAll 1 _ rfl el40 rfl rfl rfl (by exact cBr_one _) rfl (by first | rfl | simp) (by first | rfl | simp) rfl rfl ?_ | refine wl_storeAll 2 _ rfl el40 rfl rfl rfl (by exact cBr_one _) rfl (by first | rfl | simp) (by first | rfl | simp) rfl rfl ?_ | refine wl_storeAll 3 _ rfl el40 rfl rfl rfl (by exact cBr_one _) rfl (by first | rfl | simp) (by first | rfl | simp) rfl rfl ?_ | refine wl_storeAll 4 _ rfl el40 rfl rfl rfl (by exact cBr_one _) rfl (by first | rfl | simp) (by first | rfl | simp) rfl rfl ?_
        refine wl_nil ?_
        refine nx_then ?_
        refine ws_seq ?_
        refine ws_region ?_
        refine wl_x (ox_move rfl rfl) rfl rfl rfl ?_
        refine wl_x (ox_loadG rfl Try.underlying40 rfl el40 rfl rfl (by first | exact Seg.blk 0 rfl | exact Seg.blk 1 rfl | exact Seg.blk 2 rfl | exact Seg.blk 3 rfl | exact Seg.blk 4 rfl | exact Seg.blk 0 rfl | exact hRp.any.seg hkp)) rfl rfl rfl ?_
        refine wl_x (ox_call rfl Try.call32 rfl (length_ok _ hbk _ _)) rfl rfl rfl ?_
        refine wl_buildSlice1 [_] rfl Try.underlying23 el3 rfl (by first | rfl | exact Rd.cells ‹_› | exact (RdL.rd ‹_›).cells) rfl rfl (by omega) rfl rfl rfl (fun g75 => ?_)
        refine wl_appendL 2 hO (RdL.one cI_len (List.Mem.head _) rfl) rfl Try.underlying23 el3 rfl (by omega) rfl rfl rfl cI_one (by simp; omega) (by simp; omega) rfl rfl rfl (fun v1 m1 hO1 => ?_)
        refine wl_x (ox_assign rfl rfl) rfl rfl rfl ?_
        refine wl_nil ?_
        refine nx_then ?_
        refine ws_seq ?_
        refine ws_region ?_
        refine wl_x (ox_move rfl rfl) rfl rfl rfl ?_
        first | refine wl_x (ox_len (ty := 25) rfl Try.underlying25 rfl) rfl rfl rfl ?_ | refine wl_x (ox_lenR hRp.rd.any rfl Try.underlying25 rfl) rfl rfl rfl ?_ | refine wl_x (ox_lenR hRq.rd.any rfl Try.underlying25 rfl) rfl rfl rfl ?_
        refine wl_x (ox_move rfl rfl) rfl rfl rfl ?_
        refine wl_nil ?_
        refine nx_then ?_
        refine ws_block ?_
        refine ws_drop ?_
        refine ws_loop (fun n s h' ms' => ∃ (j : Nat) (v : Value) (m : Hp) (D : List Int), n = q.length - j ∧ s = [(11, .pointer (some ⟨g11, 0, none⟩)), (14, vp), (15, vq), (16, v), (18, .pointer (some ⟨g18, 0, none⟩)), (66, vp), (67, .int .i64 p.length), (68, .int .i64 k), (77, vq), (78, .int .i64 q.length), (79, .int .i64 j)] ∧ h6 = h' ∧ ms' = [Blk g18 40 (cBr p[k]), m] ∧ j ≤ q.length ∧ OwnL cI 1 3 m v D ∧ D = C ++ p[k].len :: (q.take j).map p[k].apart ∧ D.length ≤ 2 + k * 20000 + j)
          (q.length - 0) _ ⟨0, _, m1, _, rfl, rfl, rfl, rfl, by omega, hO1, rfl, by simp; omega⟩ (by repeat (first | exact trivial | refine ⟨rfl, ?_⟩)) ?_
        clear hO hO1
        rintro n s h' ms' ⟨j, v, m, D, rfl, rfl, rfl, rfl, hj, hO, hD, hDl⟩
        refine ws_seq ?_
        refine ws_region ?_
        refine wl_x (ox_lss rfl rfl rfl) rfl rfl rfl ?_
        refine wl_nil ?_
        refine nx_then ?_
        refine ws_seq ?_
        refine ws_if rfl (fun hltq => ?_) (fun hltq => ?_)
        · skip
          have hjq : j < q.length := by omega
          have hbj := hqB _ (List.getElem_mem hjq)
          have htj := take_succ_map p[k].apart q j hjq
          refine ws_skip ?_
          refine nx_then ?_
          refine ws_seq ?_
          refine ws_block ?_
          refine ws_seq ?_
          refine ws_region ?_
          first | refine wl_x (ox_index _ rfl Try.underlying25 el40 rfl rfl rfl (by omega)) rfl rfl rfl ?_ | refine wl_x (ox_indexR _ hRp.rd.any rfl Try.underlying25 el40 rfl rfl rfl (by omega)) rfl rfl rfl ?_ | refine wl_x (ox_indexR _ hRq.rd.any rfl Try.underlying25 el40 rfl rfl rfl (by omega)) rfl rfl rfl ?_
          refine wl_x (ox_loadG rfl Try.underlying40 rfl el40 rfl rfl (by first | exact Seg.blk 0 rfl | exact Seg.blk 1 rfl | exact hRq.any.seg hjq)) rfl rfl rfl ?_
          refine wl_alloc [.int .i64 0, .int .i64 0, .int .i64 0, .bool false, .int .i64 0, .int .i64 0] rfl el40 rfl rfl rfl rfl (fun g20 => ?_)
          first | refine wl_storeAll 0 _ rfl el40 rfl rfl rfl (by exact cBr_one _) rfl (by first | rfl | simp) (by first | rfl | simp) rfl rfl ?_ | refine wl_storeAll 1 _ rfl el40 rfl rfl rfl (by exact cBr_one _) rfl (by first | rfl | simp) (by first | rfl | simp) rfl rfl ?_ | refine wl_storeAll 2 _ rfl el40 rfl rfl rfl (by exact cBr_one _) rfl (by first | rfl | simp) (by first | rfl | simp) rfl rfl ?_ | refine wl_storeAll 3 _ rfl el40 rfl rfl rfl (by exact cBr_one _) rfl (by first | rfl | simp) (by first | rfl | simp) rfl rfl ?_ | refine wl_storeAll 4 _ rfl el40 rfl rfl rfl (by exact cBr_one _) rfl (by first | rfl | simp) (by first | rfl | simp) rfl rfl ?_
          refine wl_nil ?_
          refine nx_then ?_
          refine ws_region ?_
          refine wl_x (ox_move rfl rfl) rfl rfl rfl ?_
          refine wl_x (ox_loadG rfl Try.underlying40 rfl el40 rfl rfl (by first | exact Seg.blk 0 rfl | exact Seg.blk 1 rfl | exact Seg.blk 2 rfl | exact Seg.blk 3 rfl | exact Seg.blk 4 rfl | exact Seg.blk (el := 40) (l := cBr p[k]) 1 rfl)) rfl rfl rfl ?_
          refine wl_x (ox_loadG rfl Try.underlying40 rfl el40 rfl rfl (by first | exact Seg.blk 0 rfl | exact Seg.blk 1 rfl | exact Seg.blk 2 rfl | exact Seg.blk 3 rfl | exact Seg.blk 4 rfl | exact Seg.blk (el := 40) (l := cBr q[j]) 0 rfl)) rfl rfl rfl ?_
          refine wl_x (ox_call rfl Try.call33 rfl (apart_ok _ _ hbk hbj _ _)) rfl rfl rfl ?_
          refine wl_buildSlice1 [_] rfl Try.underlying23 el3 rfl (by first | rfl | exact Rd.cells ‹_› | exact (RdL.rd ‹_›).cells) rfl rfl (by omega) rfl rfl rfl (fun g87 => ?_)
          refine wl_appendL 3 hO (RdL.one cI_len (List.Mem.head _) rfl) rfl Try.underlying23 el3 rfl (by omega) rfl rfl rfl cI_one (by simp; omega) (by simp; omega) rfl rfl rfl (fun v1 m1 hO1 => ?_)
          refine wl_x (ox_assign rfl rfl) rfl rfl rfl ?_
          refine wl_nil ?_
          refine nx_block ?_
          refine nx_then ?_
          refine ws_region ?_
          refine wl_x (ox_add rfl rfl rfl (by omega)) rfl rfl rfl ?_
          refine wl_x (ox_move rfl rfl) rfl rfl rfl ?_
          refine wl_nil ?_
          refine nx_drop (nx_drop ?_)
          refine nx_round (q.length - (j + 1)) _ (by omega) ⟨j + 1, v1, m1, _, rfl, rfl, rfl, rfl, by omega, hO1, by rw [hD, htj]; simp, by simp; omega⟩ (by repeat (first | exact trivial | refine ⟨rfl, ?_⟩))
        · skip
          rw [List.take_of_length_le (by omega)] at hD
          refine ws_exit ?_
          refine nx_then_exit ?_
          refine nx_then_exit ?_
          refine nx_block_exit ?_
          refine nx_block ?_
          refine nx_then ?_
          refine ws_region ?_
          refine wl_x (ox_add rfl rfl rfl (by omega)) rfl rfl rfl ?_
          refine wl_x (ox_move rfl rfl) rfl rfl rfl ?_
          refine wl_nil ?_
          refine nx_drop ?_
          refine nx_round (p.length - (k + 1)) _ (by omega) ⟨k + 1, v, m, D, rfl, rfl, rfl, rfl, by omega, hO, by rw [hD, hC, hts]; simp, by omega⟩ (by repeat (first | exact trivial | refine ⟨rfl, ?_⟩))
      · skip
        have hkP : k = p.length := by omega
        rw [List.take_of_length_le (by omega)] at hC
        refine ws_exit ?_
        refine nx_then_exit ?_
        refine nx_then_exit ?_
        refine nx_block_exit ?_
        refine nx_then ?_
        refine ws_seq ?_
        refine ws_seq ?_
        refine ws_region ?_
        refine wl_x (ox_move rfl rfl) rfl rfl rfl ?_
        first | refine wl_x (ox_len (ty := 25) rfl Try.underlying25 rfl) rfl rfl rfl ?_ | refine wl_x (ox_lenR hRp.rd.any rfl Try.underlying25 rfl) rfl rfl rfl ?_ | refine wl_x (ox_lenR hRq.rd.any rfl Try.underlying25 rfl) rfl rfl rfl ?_
        refine wl_x (ox_move rfl rfl) rfl rfl rfl ?_
        refine wl_nil ?_
        refine nx_then ?_
        refine ws_block ?_
        refine ws_loop (fun n s h' ms' => ∃ (j : Nat) (v : Value) (m : Hp) (D : List Int), n = q.length - j ∧ s = [(11, .pointer (some ⟨g11, 0, none⟩)), (14, vp), (15, vq), (16, v), (91, vq), (92, .int .i64 q.length), (93, .int .i64 j)] ∧ h6 = h' ∧ ms' = [m] ∧ j ≤ q.length ∧ OwnL cI 1 3 m v D ∧ D = C ++ (q.take j).map Br.len ∧ D.length ≤ 1 + k * 20000 + j)
          (q.length - 0) _ ⟨0, v, m, C, rfl, rfl, rfl, rfl, by omega, hO, by simp, by omega⟩ (by repeat (first | exact trivial | refine ⟨rfl, ?_⟩)) ?_
        clear hO
        rintro n s h' ms' ⟨j, v, m, D, rfl, rfl, rfl, rfl, hj, hO, hD, hDl⟩
        refine ws_seq ?_
        refine ws_region ?_
        refine wl_x (ox_lss rfl rfl rfl) rfl rfl rfl ?_
        refine wl_nil ?_
        refine nx_then ?_
        refine ws_seq ?_
        refine ws_if rfl (fun hltq => ?_) (fun hltq => ?_)
        · skip
          have hjq : j < q.length := by omega
          have hbj := hqB _ (List.getElem_mem hjq)
          have htj := take_succ_map Br.len q j hjq
          refine ws_skip ?_
          refine nx_then ?_
          refine ws_seq ?_
          refine ws_block ?_
          refine ws_seq ?_
          refine ws_region ?_
          first | refine wl_x (ox_index _ rfl Try.underlying25 el40 rfl rfl rfl (by omega)) rfl rfl rfl ?_ | refine wl_x (ox_indexR _ hRp.rd.any rfl Try.underlying25 el40 rfl rfl rfl (by omega)) rfl rfl rfl ?_ | refine wl_x (ox_indexR _ hRq.rd.any rfl Try.underlying25 el40 rfl rfl rfl (by omega)) rfl rfl rfl ?_
          refine wl_x (ox_loadG rfl Try.underlying40 rfl el40 rfl rfl (by first | exact Seg.blk 0 rfl | exact hRq.any.seg hjq)) rfl rfl rfl ?_
          refine wl_alloc [.int .i64 0, .int .i64 0, .int .i64 0, .bool false, .int .i64 0, .int .i64 0] rfl el40 rfl rfl rfl rfl (fun g22 => ?_)
          first | refine wl_storeAll 0 _ rfl el40 rfl rfl rfl (by exact cBr_one _) rfl (by first | rfl | simp) (by first | rfl | simp) rfl rfl ?_ | refine wl_storeAll 1 _ rfl el40 rfl rfl rfl (by exact cBr_one _) rfl (by first | rfl | simp) (by first | rfl | simp) rfl rfl ?_ | refine wl_storeAll 2 _ rfl el40 rfl rfl rfl (by exact cBr_one _) rfl (by first | rfl | simp) (by first | rfl | simp) rfl rfl ?_ | refine wl_storeAll 3 _ rfl el40 rfl rfl rfl (by exact cBr_one _) rfl (by first | rfl | simp) (by first | rfl | simp) rfl rfl ?_ | refine wl_storeAll 4 _ rfl el40 rfl rfl rfl (by exact cBr_one _) rfl (by first | rfl | simp) (by first | rfl | simp) rfl rfl ?_
          refine wl_nil ?_
          refine nx_then ?_
          refine ws_region ?_
          refine wl_x (ox_move rfl rfl) rfl rfl rfl ?_
          refine wl_x (ox_loadG rfl Try.underlying40 rfl el40 rfl rfl (by first | exact Seg.blk 0 rfl | exact Seg.blk 1 rfl | exact Seg.blk 2 rfl | exact Seg.blk 3 rfl | exact Seg.blk 4 rfl | exact Seg.blk 0 rfl | exact hRq.any.seg hjq)) rfl rfl rfl ?_
          refine wl_x (ox_call rfl Try.call32 rfl (length_ok _ hbj _ _)) rfl rfl rfl ?_
          refine wl_buildSlice1 [_] rfl Try.underlying23 el3 rfl (by first | rfl | exact Rd.cells ‹_› | exact (RdL.rd ‹_›).cells) rfl rfl (by omega) rfl rfl rfl (fun g100 => ?_)
          refine wl_appendL 2 hO (RdL.one cI_len (List.Mem.head _) rfl) rfl Try.underlying23 el3 rfl (by omega) rfl rfl rfl cI_one (by simp; omega) (by simp; omega) rfl rfl rfl (fun v1 m1 hO1 => ?_)
          refine wl_x (ox_assign rfl rfl) rfl rfl rfl ?_
          refine wl_nil ?_
          refine nx_block ?_
          refine nx_then ?_
          refine ws_region ?_
          refine wl_x (ox_add rfl rfl rfl (by omega)) rfl rfl rfl ?_
          refine wl_x (ox_move rfl rfl) rfl rfl rfl ?_
          refine wl_nil ?_
          refine nx_drop (nx_drop ?_)
          refine nx_round (q.length - (j + 1)) _ (by omega) ⟨j + 1, v1, m1, _, rfl, rfl, rfl, rfl, by omega, hO1, by rw [hD, htj]; simp, by simp; omega⟩ (by repeat (first | exact trivial | refine ⟨rfl, ?_⟩))
        · skip
          rw [List.take_of_length_le (by omega)] at hD
          have hDc : D = costsOf p q L := by rw [hD, hC]; rfl
          refine ws_exit ?_
          refine nx_then_exit ?_
          refine nx_then_exit ?_
          refine nx_block_exit ?_
          refine nx_then ?_
          refine ws_seq ?_
          refine ws_region ?_
          refine wl_x (ox_move rfl rfl) rfl rfl rfl ?_
          refine wl_call_ (pre := [m]) rfl Try.call28 rfl (sort_ok D v m hO (by omega) _) rfl rfl rfl rfl (fun _ _ _ _ hL => ?_)
          obtain ⟨rfl, m2, rfl, hO2⟩ := hL
          simp only [List.cons_append, List.nil_append, List.append_nil]
          have hsl : (isort D).length = D.length := (isort_perm D).length_eq
          refine wl_nil ?_
          refine nx_then ?_
          refine ws_freezeL hO2 (fun h7 l7 hRs => ?_)
          have c11 := c11.le l7
          refine ws_seq ?_
          refine ws_region ?_
          refine wl_x (ox_move rfl rfl) rfl rfl rfl ?_
          refine wl_x (ox_makeFunc rfl rfl rfl) rfl rfl rfl ?_
          refine wl_call rfl Try.call35 rfl (filteredI_ok (isort D) v 36 [Value.pointer (some ⟨g11, 0, none⟩)] (fun n => decide (L ≤ n)) h7 hRs (by omega) Try.call36 (fun b _ ms => geqL_ok b g11 L h7 (fun _ => c11.any) ms)) rfl rfl rfl (fun v17 _ _ _ hL => ?_)
          obtain ⟨rfl, m3, rfl, hO3⟩ := hL
          have hfl : ((isort D).filter fun n => decide (L ≤ n)).length ≤ (isort D).length := List.length_filter_le _ _
          refine wl_call_ (pre := [m3]) rfl Try.call34 rfl (compact_ok _ v17 m3 hO3 (by omega) _) rfl rfl rfl rfl (fun v18 _ _ _ hL => ?_)
          obtain ⟨rfl, m4, rfl, hO4⟩ := hL
          simp only [List.cons_append, List.nil_append, List.append_nil]
          have hT : Lib.compact ((isort D).filter fun n => decide (L ≤ n)) = tried p q L := by rw [hDc]; rfl
          rw [hT] at hO4
          have hTm := tried_mem p q L
          have hTs := tried_sorted p q L
          have hTu : (tried p q L).length ≤ D.length := by
            rw [← hT]; exact Nat.le_trans (compact_sublist _).length_le (by omega)
          generalize tried p q L = T at hO4 hTm hTs hTu
          have hLc : L ∈ costsOf p q L := by unfold costsOf; simp
          have hTl : 0 < T.length := List.length_pos_of_mem ((hTm L).2 ⟨hLc, Int.le_refl _⟩)
          obtain ⟨cl1, cl2⟩ := costs_len p q L
          have hmax : ∀ b : Int, b ∈ costsOf p q L → b ≤ T[T.length - 1] := fun b hb => by
            rcases Int.lt_or_le b L with h1 | h1
            · have := ((hTm _).1 (List.getElem_mem (show T.length - 1 < T.length by omega))).2
              omega
            · obtain ⟨j, hj, e⟩ := List.getElem_of_mem ((hTm b).2 ⟨hb, h1⟩)
              rw [← e]
              exact sorted_get hTs (by omega) (by omega)
          have hlast : Pos (fitsD p q T[T.length - 1]) (p.length + q.length) := pos_max p q _ (fun b hb => hmax _ (cl1 b hb)) (fun b hb => hmax _ (cl2 b hb))
          have hdone : ∀ d, d ∈ T → Pos (fitsD p q d) (p.length + q.length) → (∀ c ∈ T, Pos (fitsD p q c) (p.length + q.length) → d ≤ c) → IsDist p q L d := fun d h1 h2 h3 =>
            ⟨((hTm d).1 h1).1, ((hTm d).1 h1).2, h2, fun c h4 h5 h6 => h3 c ((hTm c).2 ⟨h4, h5⟩) h6⟩
          clear hmax cl1 cl2 hT hTm hLc
          refine wl_x (ox_assign rfl rfl) rfl rfl rfl ?_
          refine wl_nil ?_
          refine nx_then ?_
          refine ws_freezeL hO4 (fun h8 l8 hRT => ?_)
          have hRp := hRp.up (Hp.le_trans l7 l8)
          have hRq := hRq.up (Hp.le_trans l7 l8)
          refine ws_seq ?_
          refine ws_region ?_
          refine wl_x (ox_move rfl rfl) rfl rfl rfl ?_
          first | refine wl_x (ox_len (ty := 23) rfl Try.underlying23 rfl) rfl rfl rfl ?_ | refine wl_x (ox_lenR hRT.rd rfl Try.underlying23 rfl) rfl rfl rfl ?_
          refine wl_x (ox_sub rfl rfl rfl (by omega)) rfl rfl rfl ?_
          refine wl_x (ox_assign rfl rfl) rfl rfl rfl ?_
          refine wl_x (ox_assign rfl rfl) rfl rfl rfl ?_
          refine wl_nil ?_
          refine nx_then ?_
          refine ws_seq ?_
          refine ws_block ?_
          refine ws_loop (fun n s h' ms' => ∃ (lo hi : Nat) (x y : Int) (hhi : hi < T.length), n = hi - lo ∧ s = [(14, vp), (15, vq), (16, v18), (23, .int .i64 x), (24, .int .i64 y)] ∧ h8 = h' ∧ ms' = [] ∧ x = lo ∧ y = hi ∧ lo ≤ hi ∧ (∀ j (hj : j < lo) (hj' : j < T.length), ¬ Pos (fitsD p q T[j]) (p.length + q.length)) ∧ Pos (fitsD p q T[hi]) (p.length + q.length))
            (T.length - 1 - 0) _ ⟨0, T.length - 1, 0, (T.length : Int) - 1, by omega, rfl, rfl, rfl, rfl, rfl, by omega, by omega, fun j hj => by omega, hlast⟩ (by repeat (first | exact trivial | refine ⟨rfl, ?_⟩)) ?_
          rintro n s h' ms' ⟨lo, hi, x, y, hhi, rfl, rfl, rfl, rfl, hx, hy, hlo, hno, hyes⟩
          refine ws_seq ?_
          refine ws_seq ?_
          refine ws_region ?_
          refine wl_x (ox_move rfl rfl) rfl rfl rfl ?_
          refine wl_x (ox_move rfl rfl) rfl rfl rfl ?_
          refine wl_x (ox_lss rfl rfl rfl) rfl rfl rfl ?_
          refine wl_nil ?_
          refine nx_then ?_
          refine ws_if rfl (fun hlh => ?_) (fun hlh => ?_)
          · skip
            obtain ⟨m, hm⟩ : ∃ m, m = (lo + hi) / 2 := ⟨_, rfl⟩
            have hmT : m < T.length := by omega
            refine ws_skip ?_
            refine nx_then ?_
            refine ws_block ?_
            refine ws_seq ?_
            refine ws_region ?_
            refine wl_x (ox_move rfl rfl) rfl rfl rfl ?_
            refine wl_x (ox_move rfl rfl) rfl rfl rfl ?_
            refine wl_x (ox_add rfl rfl rfl (by omega)) rfl rfl rfl ?_
            first | refine wl_x (ox_quoP rfl rfl rfl (by omega) (by omega)) rfl rfl rfl ?_ | refine wl_x (ox_quo rfl rfl rfl (by omega) (by omega)) rfl rfl rfl ?_
            refine wl_x (ox_assign rfl rfl) rfl rfl rfl ?_
            refine wl_nil ?_
            refine nx_then ?_
            refine ws_seq ?_
            refine ws_region ?_
            refine wl_x (ox_move rfl rfl) rfl rfl rfl ?_
            refine wl_x (ox_move rfl rfl) rfl rfl rfl ?_
            refine wl_x (ox_move rfl rfl) rfl rfl rfl ?_
            refine wl_x (ox_move rfl rfl) rfl rfl rfl ?_
            first | refine wl_x (ox_index (m) rfl Try.underlying23 el3 rfl rfl (by omega) (by omega)) rfl rfl rfl ?_ | refine wl_x (ox_indexR (m) hRT.rd rfl Try.underlying23 el3 rfl rfl (by omega) (by omega)) rfl rfl rfl ?_
            refine wl_x (ox_load rfl Try.underlying3 rfl rfl (by first | exact hRT.cell0 hmT rfl)) rfl rfl rfl ?_
            refine wl_x (ox_call rfl Try.call37 rfl (possible_v p q vp vq _ h8 hRp hRq (by omega) (by omega) hpA hqB _)) rfl rfl rfl ?_
            refine wl_nil ?_
            refine nx_then ?_
            refine ws_cond rfl (fun hpo => ?_) (fun hpo => ?_)
            · skip
              have hpo' : Pos (fitsD p q T[m]) (p.length + q.length) := by simpa [posB] using hpo
              refine ws_region ?_
              refine wl_x (ox_move rfl rfl) rfl rfl rfl ?_
              refine wl_x (ox_assign rfl rfl) rfl rfl rfl ?_
              refine wl_nil ?_
              refine nx_block ?_
              refine nx_round (m - lo) _ (by omega) ⟨lo, m, x, (x + y) / 2, hmT, rfl, rfl, rfl, rfl, hx, by omega, by omega, hno, hpo'⟩ (by repeat (first | exact trivial | refine ⟨rfl, ?_⟩))
            · skip
              have hpo' : ¬ Pos (fitsD p q T[m]) (p.length + q.length) := by simpa [posB] using hpo
              refine ws_region ?_
              refine wl_x (ox_move rfl rfl) rfl rfl rfl ?_
              refine wl_x (ox_add rfl rfl rfl (by omega)) rfl rfl rfl ?_
              refine wl_x (ox_assign rfl rfl) rfl rfl rfl ?_
              refine wl_nil ?_
              refine nx_block ?_
              refine nx_round (hi - (m + 1)) _ (by omega) ⟨m + 1, hi, (x + y) / 2 + 1, y, hhi, rfl, rfl, rfl, rfl, by omega, hy, by omega, fun j hj hj' hp => hpo' (hp.mono (fitsD_mono (sorted_get hTs (by omega) hmT))), hyes⟩ (by repeat (first | exact trivial | refine ⟨rfl, ?_⟩))
          · skip
            obtain rfl : lo = hi := by omega
            have hID := hdone _ (List.getElem_mem hhi) hyes fun c hc hp => by
              obtain ⟨j, hj, rfl⟩ := List.getElem_of_mem hc
              rcases Nat.lt_or_ge j lo with h1 | h1
              · exact absurd hp (hno j h1 hj)
              · exact sorted_get hTs h1 hj
            refine ws_exit ?_
            refine nx_then_exit ?_
            refine nx_then_exit ?_
            refine nx_block_exit ?_
            refine nx_then ?_
            refine ws_seq ?_
            refine ws_region ?_
            refine wl_x (ox_move rfl rfl) rfl rfl rfl ?_
            refine wl_x (ox_move rfl rfl) rfl rfl rfl ?_
            first | refine wl_x (ox_index (lo) rfl Try.underlying23 el3 rfl rfl (by omega) (by omega)) rfl rfl rfl ?_ | refine wl_x (ox_indexR (lo) hRT.rd rfl Try.underlying23 el3 rfl rfl (by omega) (by omega)) rfl rfl rfl ?_
            refine wl_x (ox_load rfl Try.underlying3 rfl rfl (by first | exact hRT.cell0 hhi rfl)) rfl rfl rfl ?_
            refine wl_x (ox_assign rfl rfl) rfl rfl rfl ?_
            refine wl_x (ox_assign rfl rfl) rfl rfl rfl ?_
            refine wl_nil ?_
            refine nx_then ?_
            refine ws_ret ?_
            exact nx_ret2 rfl rfl rfl (⟨T[lo], true, rfl, fun h => absurd hlen h, fun _ => ⟨rfl, hID⟩⟩)
end Go.Proofs.Ythdkhnjnhhofgaa
