/- Walks: the reference's births. -/
import Derived.Test.YthdkhnjnhhofgaaWk
set_option linter.unusedSimpArgs false
set_option linter.unusedVariables false
set_option maxRecDepth 100000
namespace Go.Proofs.Ythdkhnjnhhofgaa
open Go.Eng Go.RowKit Go.Kuhn

/-- One number put in its place. -/
def put (x : Int) : List Int → List Int
  | [] => [x]
  | y :: l => if y ≤ x then y :: put x l else x :: y :: l
theorem put_perm (x : Int) : ∀ l, (put x l).Perm (x :: l)
  | [] => List.Perm.refl _
  | y :: l => by
    unfold put
    split
    · exact ((put_perm x l).cons y).trans (List.Perm.swap _ _ _)
    · exact List.Perm.refl _
theorem put_at (x : Int) : ∀ (l : List Int) (k : Nat), k ≤ l.length → (∀ j (hj : j < l.length), j < k → l[j] ≤ x) → (∀ hk : k < l.length, ¬ l[k] ≤ x) → put x l = l.take k ++ x :: l.drop k
  | [], k, h, _, _ => by simp [put]
  | y :: l, 0, _, _, h => by
    have := h (by simp)
    unfold put; rw [if_neg (by simpa using this)]; simp
  | y :: l, k + 1, h, h1, h2 => by
    have := h1 0 (by simp) (by omega)
    unfold put; rw [if_pos (by simpa using this), put_at x l k (by simpa using h) (fun j hj hjk => h1 (j + 1) (by simpa using hj) (by omega)) (fun hk => h2 (by simpa using hk))]
    simp
theorem put_sorted (x : Int) : ∀ l : List Int, l.Pairwise (· ≤ ·) → (put x l).Pairwise (· ≤ ·)
  | [], _ => by simp [put]
  | y :: l, h => by
    obtain ⟨h1, h2⟩ := List.pairwise_cons.1 h
    unfold put
    split
    · rename_i hyx
      refine List.pairwise_cons.2 ⟨fun z hz => ?_, put_sorted x l h2⟩
      rcases List.mem_cons.1 ((put_perm x l).mem_iff.1 hz) with rfl | hz
      · exact hyx
      · exact h1 z hz
    · rename_i hyx
      refine List.pairwise_cons.2 ⟨fun z hz => ?_, h⟩
      rcases List.mem_cons.1 hz with rfl | hz
      · omega
      · have := h1 z hz; omega

def putAll (l : List Int) : List Int := l.foldl (fun a x => put x a) []
theorem putAll_snoc (l : List Int) (x : Int) : putAll (l ++ [x]) = put x (putAll l) := by simp [putAll]
theorem putAll_perm (l : List Int) : (putAll l).Perm l := by
  unfold putAll
  have : ∀ (l a : List Int), (l.foldl (fun a x => put x a) a).Perm (a ++ l) := by
    intro l
    induction l with
    | nil => intro a; simp
    | cons x l ih => intro a; exact (ih (put x a)).trans (((put_perm x a).append_right l).trans (by simpa using List.perm_middle.symm))
  simpa using this l []
theorem putAll_sorted (l : List Int) : (putAll l).Pairwise (· ≤ ·) := by
  unfold putAll
  have : ∀ (l a : List Int), a.Pairwise (· ≤ ·) → (l.foldl (fun a x => put x a) a).Pairwise (· ≤ ·) := by
    intro l
    induction l with
    | nil => exact fun a h => h
    | cons x l ih => exact fun a h => ih _ (put_sorted x a h)
  exact this l [] List.Pairwise.nil

theorem own_none (g : Nat) : OwnL cI 1 3 (Blk g 3 []) (.slice (some ⟨g, 0, none⟩) 0 0) ([] : List Int) := ⟨⟨rfl, .inr ⟨g, 0, [], rfl, rfl, rfl, Nat.le_refl _, by omega⟩⟩, cI_len⟩
theorem rbirths_ok (l : List Br) (vl : Value) (h : Hp) (hR : RdL cBr 6 h [] vl l) (hl : l.length ≤ 1000000) :
    FnT Try.prog 38 #[vl] h [] (fun r h' ms' => ms' = [] ∧ RdL cI 1 h' [] r (putAll (l.map Br.birth))) := by
  refine fn_enter Try.func38 Try.ntmps38 rfl rfl (fun w0 hw0 => ?_)
  simp only [argS]
  refine ws_seq ?_
  refine ws_region ?_
  refine wl_x (ox_assign rfl rfl) rfl rfl rfl ?_
  refine wl_nil ?_
  refine nx_then ?_
  refine ws_seq ?_
  refine ws_region ?_
  refine wl_x (ox_assign rfl rfl) rfl rfl rfl ?_
  refine wl_nil ?_
  refine nx_then ?_
  refine ws_seq ?_
  refine ws_seq ?_
  refine ws_region ?_
  refine wl_x (ox_assign rfl rfl) rfl rfl rfl ?_
  refine wl_nil ?_
  refine nx_then ?_
  refine ws_block ?_
  refine ws_emp ?_
  refine ws_loop (fun n s h' ms' => ∃ (i : Nat) (v : Value) (m : Hp) (o : List Int), n = l.length - i ∧ s = [(0, vl), (3, v), (4, .int .i64 i)] ∧ h = h' ∧ ms' = [m] ∧ i ≤ l.length ∧ OwnL cI 1 3 m v o ∧ o = putAll ((l.take i).map Br.birth) ∧ o.length = i)
    (l.length - 0) _ ⟨0, _, _, [], rfl, rfl, rfl, rfl, by omega, OwnL.nil cI_len, rfl, rfl⟩ (by repeat (first | exact trivial | refine ⟨rfl, ?_⟩)) ?_
  rintro n s h' ms' ⟨i, v, m, o, rfl, rfl, rfl, rfl, hi, hO, ho, hol⟩
  refine ws_seq ?_
  refine ws_seq ?_
  refine ws_region ?_
  refine wl_x (ox_move rfl rfl) rfl rfl rfl ?_
  refine wl_x (ox_move rfl rfl) rfl rfl rfl ?_
  first | refine wl_x (ox_len (ty := 25) rfl Try.underlying25 rfl) rfl rfl rfl ?_ | refine wl_x (ox_lenR hR.rd.any rfl Try.underlying25 rfl) rfl rfl rfl ?_
  refine wl_x (ox_lss rfl rfl rfl) rfl rfl rfl ?_
  refine wl_nil ?_
  refine nx_then ?_
  refine ws_if rfl (fun hlt => ?_) (fun hlt => ?_)
  · skip
    have hli : i < l.length := by omega
    have hts := take_succ_map Br.birth l i hli
    have hRo := OwnL.rd hO (h := h) (ms := [m]) (.head _)
    refine ws_skip ?_
    refine nx_then ?_
    refine ws_seq ?_
    refine ws_block ?_
    refine ws_seq ?_
    refine ws_region ?_
    refine wl_x (ox_assign rfl rfl) rfl rfl rfl ?_
    refine wl_nil ?_
    refine nx_then ?_
    refine ws_seq ?_
    refine ws_block ?_
    refine ws_loop (fun q s h' ms' => ∃ (k : Nat), q = o.length - k ∧ s = [(0, vl), (3, v), (4, .int .i64 i), (5, .int .i64 k)] ∧ h = h' ∧ ms' = [m] ∧ k ≤ o.length ∧ ∀ j (hj : j < o.length), j < k → o[j] ≤ l[i].birth)
      (o.length - 0) _ ⟨0, rfl, rfl, rfl, rfl, by omega, fun j hj h => by omega⟩ (by repeat (first | exact trivial | refine ⟨rfl, ?_⟩)) ?_
    rintro q s h' ms' ⟨k, rfl, rfl, rfl, rfl, hk, hle⟩
    refine ws_seq ?_
    refine ws_seq ?_
    refine ws_draw 14 fol (by kernel_rfl) rfl ?_
    simp only [List.take_succ_cons, List.take_zero, List.drop_succ_cons, List.drop_zero, List.take_nil, List.drop_nil]
    refine wr_x (ox_move rfl rfl) rfl rfl ?_
    refine wr_x (ox_move rfl rfl) rfl rfl ?_
    first | refine wr_x (ox_len (ty := 23) rfl Try.underlying23 rfl) rfl rfl ?_ | refine wr_x (ox_lenR hRo.rd rfl Try.underlying23 rfl) rfl rfl ?_ | refine wr_x (ox_lenR hR.rd.any rfl Try.underlying23 rfl) rfl rfl ?_
    refine wr_x (ox_lss rfl rfl rfl) rfl rfl ?_
    refine wr_x (ox_move rfl rfl) rfl rfl ?_
    refine wr_split (t := 17) rfl (fun hkl => ?_) (fun hkl => ?_)
    · skip
      have hko : k < o.length := by omega
      refine wr_gx (ox_move rfl rfl) rfl rfl rfl rfl ?_
      refine wr_gx (ox_move rfl rfl) rfl rfl rfl rfl ?_
      first | refine wr_gx (ox_index _ rfl Try.underlying23 el3 rfl rfl rfl (by omega)) rfl rfl rfl rfl ?_ | refine wr_gx (ox_indexR _ hRo.rd rfl Try.underlying23 el3 rfl rfl rfl (by omega)) rfl rfl rfl rfl ?_ | refine wr_gx (ox_indexR _ hR.rd.any rfl Try.underlying23 el3 rfl rfl rfl (by omega)) rfl rfl rfl rfl ?_
      refine wr_gx (ox_load rfl Try.underlying3 rfl rfl (by first | exact hRo.cell0 hko rfl | exact hR.any.cell hli rfl)) rfl rfl rfl rfl ?_
      refine wr_gx (ox_move rfl rfl) rfl rfl rfl rfl ?_
      refine wr_gx (ox_move rfl rfl) rfl rfl rfl rfl ?_
      first | refine wr_gx (ox_index _ rfl Try.underlying25 el40 rfl rfl rfl (by omega)) rfl rfl rfl rfl ?_ | refine wr_gx (ox_indexR _ hRo.rd rfl Try.underlying25 el40 rfl rfl rfl (by omega)) rfl rfl rfl rfl ?_ | refine wr_gx (ox_indexR _ hR.rd.any rfl Try.underlying25 el40 rfl rfl rfl (by omega)) rfl rfl rfl rfl ?_
      refine wr_gx (ox_fieldF fd40_1 rfl rfl) rfl rfl rfl rfl ?_
      refine wr_gx (ox_load rfl Try.underlying3 rfl rfl (by first | exact hRo.cell0 hko rfl | exact hR.any.cell hli rfl)) rfl rfl rfl rfl ?_
      refine wr_nil ?_
      refine wl_gx (ox_leq rfl rfl rfl) rfl rfl rfl rfl rfl rfl ?_
      refine wl_x (ox_pick_t rfl rfl rfl) rfl rfl rfl ?_
      refine wl_nil ?_
      refine nx_then ?_
      refine ws_if rfl (fun hlk => ?_) (fun hlk => ?_)
      · skip
        refine ws_skip ?_
        refine nx_then ?_
        refine ws_block ?_
        refine ws_region ?_
        refine wl_x (ox_move rfl rfl) rfl rfl rfl ?_
        refine wl_x (ox_add rfl rfl rfl (by omega)) rfl rfl rfl ?_
        refine wl_x (ox_assign rfl rfl) rfl rfl rfl ?_
        refine wl_nil ?_
        refine nx_block ?_
        refine nx_round (o.length - (k + 1)) _ (by omega) ⟨k + 1, rfl, rfl, rfl, rfl, by omega, fun j hj h => by
          rcases Nat.lt_or_ge j k with h1 | h1
          · exact hle j hj h1
          · have : j = k := by omega
            subst this; exact hlk⟩ (by repeat (first | exact trivial | refine ⟨rfl, ?_⟩))
      · skip
        have hput := put_at l[i].birth o k hk hle (fun _ => hlk)
        refine ws_exit ?_
        refine nx_then_exit ?_
        refine nx_then_exit ?_
        refine nx_block_exit ?_
        refine nx_then ?_
        refine ws_seq ?_
        refine ws_draw 9 fol (by kernel_rfl) rfl ?_
        simp only [List.take_succ_cons, List.take_zero, List.drop_succ_cons, List.drop_zero, List.take_nil, List.drop_nil]
        refine wr_x (ox_move rfl rfl) rfl rfl ?_
        refine wr_x (ox_move rfl rfl) rfl rfl ?_
        first | refine wr_x (ox_index _ rfl Try.underlying25 el40 rfl rfl rfl (by omega)) rfl rfl ?_ | refine wr_x (ox_indexR _ hRo.rd rfl Try.underlying25 el40 rfl rfl rfl (by omega)) rfl rfl ?_ | refine wr_x (ox_indexR _ (hRo.sub (ms' := [Blk g36 3 [.int .i64 l[i].birth], m]) (by simp)).rd rfl Try.underlying25 el40 rfl rfl rfl (by omega)) rfl rfl ?_ | refine wr_x (ox_indexR _ hR.rd.any rfl Try.underlying25 el40 rfl rfl rfl (by omega)) rfl rfl ?_
        refine wr_x (ox_fieldF fd40_1 rfl rfl) rfl rfl ?_
        refine wr_x (ox_load rfl Try.underlying3 rfl rfl (by first | exact hR.any.cell hli rfl)) rfl rfl ?_
        refine wr_b (onb_buildSlice1 [_] rfl Try.underlying23 el3 rfl (by first | rfl | exact Rd.cells ‹_› | exact (RdL.rd ‹_›).cells) rfl rfl (by omega)) rfl rfl ?_
        refine wr_x (ox_move rfl rfl) rfl rfl ?_
        refine wr_x (ox_move rfl rfl) rfl rfl ?_
        first | refine wr_x (ox_sliceR_l _ hRo.rd rfl Try.underlying23 el3 rfl rfl rfl (by omega)) rfl rfl ?_ | refine wr_x (ox_sliceR_l _ (hRo.sub (ms' := [Blk g36 3 [.int .i64 l[i].birth], m]) (by simp)).rd rfl Try.underlying23 el3 rfl rfl rfl (by omega)) rfl rfl ?_ | refine wr_x (ox_sliceR_l _ hR.rd.any rfl Try.underlying23 el3 rfl rfl rfl (by omega)) rfl rfl ?_
        refine wr_nil1 (fun g36 => ?_)
        have hRk : RdL cI 1 h [Blk g36 3 [.int .i64 l[i].birth], m] (vsub 1 v k o.length) (o.drop k) := by
          have := (hRo.sub (ms' := [Blk g36 3 [.int .i64 l[i].birth], m]) (by simp)).sub_ (i := k) (j := o.length) hk (Nat.le_refl _)
          rwa [List.take_of_length_le (by simp)] at this
        refine wl_appendL 0 (own_one g36 l[i].birth) hRk rfl Try.underlying23 el3 rfl (by omega) rfl rfl rfl cI_one (by simp; omega) (by simp; omega) rfl rfl rfl (fun v6 m6 hO6 => ?_)
        refine wl_x (ox_assign rfl rfl) rfl rfl rfl ?_
        refine wl_nil ?_
        refine nx_then ?_
        refine ws_region ?_
        refine wl_buildSlice [] [] [] rfl Try.underlying23 el3 rfl (by omega) (by first | rfl | simp [madeCells]) (by repeat (first | exact trivial | refine ⟨⟨by first | rfl | exact Rd.cells ‹_› | exact (RdL.rd ‹_›).cells, rfl, rfl⟩, ?_⟩)) rfl rfl rfl rfl (fun g41 => ?_)
        refine wl_x (ox_move rfl rfl) rfl rfl rfl ?_
        refine wl_x (ox_move rfl rfl) rfl rfl rfl ?_
        refine wl_x (ox_sliceR_h _ (hRo.sub (ms' := [Blk g41 3 [], m6, m]) (by simp)).rd rfl Try.underlying23 el3 rfl rfl rfl (by omega)) rfl rfl rfl ?_
        have hR0 : RdL cI 1 h [Blk g41 3 [], m6, m] (vsub 1 v 0 k) (o.take k) := (hRo.sub (ms' := [Blk g41 3 [], m6, m]) (by simp)).sub_ (i := 0) (j := k) (by omega) hk
        refine wl_appendL 0 (own_none g41) hR0 rfl Try.underlying23 el3 rfl (by omega) rfl rfl rfl cI_one (by simp; omega) (by simp; omega) rfl rfl rfl (fun v7 m7 hO7 => ?_)
        refine wl_x (ox_move rfl rfl) rfl rfl rfl ?_
        refine wl_appendL 0 hO7 (OwnL.rd hO6 (.tail _ (.head _))) rfl Try.underlying23 el3 rfl (by omega) rfl rfl rfl cI_one (by simp; omega) (by simp; omega) rfl rfl rfl (fun v8 m8 hO8 => ?_)
        refine wl_x (ox_assign rfl rfl) rfl rfl rfl ?_
        refine wl_nil ?_
        refine nx_block ?_
        refine nx_then ?_
        refine ws_region ?_
        refine wl_x (ox_move rfl rfl) rfl rfl rfl ?_
        refine wl_x (ox_add rfl rfl rfl (by omega)) rfl rfl rfl ?_
        refine wl_x (ox_assign rfl rfl) rfl rfl rfl ?_
        refine wl_nil ?_
        refine nx_perm (List.perm_append_comm (l₁ := [m8]) (l₂ := [m6, m])) (nx_drop (nx_drop ?_))
        refine nx_round (l.length - (i + 1)) _ (by omega) ⟨i + 1, v8, m8, _, rfl, rfl, rfl, rfl, by omega, hO8, by rw [hts, putAll_snoc, ← ho, hput]; simp, by simp; omega⟩ (by repeat (first | exact trivial | refine ⟨rfl, ?_⟩))
    · skip
      have hput := put_at l[i].birth o k hk hle (fun h => by omega)
      refine wr_skip rfl rfl rfl rfl rfl ?_
      refine wr_skip rfl rfl rfl rfl rfl ?_
      refine wr_skip rfl rfl rfl rfl rfl ?_
      refine wr_skip rfl rfl rfl rfl rfl ?_
      refine wr_skip rfl rfl rfl rfl rfl ?_
      refine wr_skip rfl rfl rfl rfl rfl ?_
      refine wr_skip rfl rfl rfl rfl rfl ?_
      refine wr_skip rfl rfl rfl rfl rfl ?_
      refine wr_skip rfl rfl rfl rfl rfl ?_
      refine wr_nil ?_
      refine wl_skip rfl rfl rfl rfl rfl rfl rfl ?_
      refine wl_x (ox_pick_f rfl rfl rfl) rfl rfl rfl ?_
      refine wl_nil ?_
      refine nx_then ?_
      refine ws_cond_f rfl ?_
      refine ws_exit ?_
      refine nx_then_exit ?_
      refine nx_then_exit ?_
      refine nx_block_exit ?_
      refine nx_then ?_
      refine ws_seq ?_
      refine ws_draw 9 fol (by kernel_rfl) rfl ?_
      simp only [List.take_succ_cons, List.take_zero, List.drop_succ_cons, List.drop_zero, List.take_nil, List.drop_nil]
      refine wr_x (ox_move rfl rfl) rfl rfl ?_
      refine wr_x (ox_move rfl rfl) rfl rfl ?_
      first | refine wr_x (ox_index _ rfl Try.underlying25 el40 rfl rfl rfl (by omega)) rfl rfl ?_ | refine wr_x (ox_indexR _ hRo.rd rfl Try.underlying25 el40 rfl rfl rfl (by omega)) rfl rfl ?_ | refine wr_x (ox_indexR _ (hRo.sub (ms' := [Blk g36 3 [.int .i64 l[i].birth], m]) (by simp)).rd rfl Try.underlying25 el40 rfl rfl rfl (by omega)) rfl rfl ?_ | refine wr_x (ox_indexR _ hR.rd.any rfl Try.underlying25 el40 rfl rfl rfl (by omega)) rfl rfl ?_
      refine wr_x (ox_fieldF fd40_1 rfl rfl) rfl rfl ?_
      refine wr_x (ox_load rfl Try.underlying3 rfl rfl (by first | exact hR.any.cell hli rfl)) rfl rfl ?_
      refine wr_b (onb_buildSlice1 [_] rfl Try.underlying23 el3 rfl (by first | rfl | exact Rd.cells ‹_› | exact (RdL.rd ‹_›).cells) rfl rfl (by omega)) rfl rfl ?_
      refine wr_x (ox_move rfl rfl) rfl rfl ?_
      refine wr_x (ox_move rfl rfl) rfl rfl ?_
      first | refine wr_x (ox_sliceR_l _ hRo.rd rfl Try.underlying23 el3 rfl rfl rfl (by omega)) rfl rfl ?_ | refine wr_x (ox_sliceR_l _ (hRo.sub (ms' := [Blk g36 3 [.int .i64 l[i].birth], m]) (by simp)).rd rfl Try.underlying23 el3 rfl rfl rfl (by omega)) rfl rfl ?_ | refine wr_x (ox_sliceR_l _ hR.rd.any rfl Try.underlying23 el3 rfl rfl rfl (by omega)) rfl rfl ?_
      refine wr_nil1 (fun g36 => ?_)
      have hRk : RdL cI 1 h [Blk g36 3 [.int .i64 l[i].birth], m] (vsub 1 v k o.length) (o.drop k) := by
        have := (hRo.sub (ms' := [Blk g36 3 [.int .i64 l[i].birth], m]) (by simp)).sub_ (i := k) (j := o.length) hk (Nat.le_refl _)
        rwa [List.take_of_length_le (by simp)] at this
      refine wl_appendL 0 (own_one g36 l[i].birth) hRk rfl Try.underlying23 el3 rfl (by omega) rfl rfl rfl cI_one (by simp; omega) (by simp; omega) rfl rfl rfl (fun v6 m6 hO6 => ?_)
      refine wl_x (ox_assign rfl rfl) rfl rfl rfl ?_
      refine wl_nil ?_
      refine nx_then ?_
      refine ws_region ?_
      refine wl_buildSlice [] [] [] rfl Try.underlying23 el3 rfl (by omega) (by first | rfl | simp [madeCells]) (by repeat (first | exact trivial | refine ⟨⟨by first | rfl | exact Rd.cells ‹_› | exact (RdL.rd ‹_›).cells, rfl, rfl⟩, ?_⟩)) rfl rfl rfl rfl (fun g41 => ?_)
      refine wl_x (ox_move rfl rfl) rfl rfl rfl ?_
      refine wl_x (ox_move rfl rfl) rfl rfl rfl ?_
      refine wl_x (ox_sliceR_h _ (hRo.sub (ms' := [Blk g41 3 [], m6, m]) (by simp)).rd rfl Try.underlying23 el3 rfl rfl rfl (by omega)) rfl rfl rfl ?_
      have hR0 : RdL cI 1 h [Blk g41 3 [], m6, m] (vsub 1 v 0 k) (o.take k) := (hRo.sub (ms' := [Blk g41 3 [], m6, m]) (by simp)).sub_ (i := 0) (j := k) (by omega) hk
      refine wl_appendL 0 (own_none g41) hR0 rfl Try.underlying23 el3 rfl (by omega) rfl rfl rfl cI_one (by simp; omega) (by simp; omega) rfl rfl rfl (fun v7 m7 hO7 => ?_)
      refine wl_x (ox_move rfl rfl) rfl rfl rfl ?_
      refine wl_appendL 0 hO7 (OwnL.rd hO6 (.tail _ (.head _))) rfl Try.underlying23 el3 rfl (by omega) rfl rfl rfl cI_one (by simp; omega) (by simp; omega) rfl rfl rfl (fun v8 m8 hO8 => ?_)
      refine wl_x (ox_assign rfl rfl) rfl rfl rfl ?_
      refine wl_nil ?_
      refine nx_block ?_
      refine nx_then ?_
      refine ws_region ?_
      refine wl_x (ox_move rfl rfl) rfl rfl rfl ?_
      refine wl_x (ox_add rfl rfl rfl (by omega)) rfl rfl rfl ?_
      refine wl_x (ox_assign rfl rfl) rfl rfl rfl ?_
      refine wl_nil ?_
      refine nx_perm (List.perm_append_comm (l₁ := [m8]) (l₂ := [m6, m])) (nx_drop (nx_drop ?_))
      refine nx_round (l.length - (i + 1)) _ (by omega) ⟨i + 1, v8, m8, _, rfl, rfl, rfl, rfl, by omega, hO8, by rw [hts, putAll_snoc, ← ho, hput]; simp, by simp; omega⟩ (by repeat (first | exact trivial | refine ⟨rfl, ?_⟩))
  · skip
    have hil : l.take i = l := List.take_of_length_le (by omega)
    rw [hil] at ho
    refine ws_exit ?_
    refine nx_then_exit ?_
    refine nx_then_exit ?_
    refine nx_block_exit ?_
    refine nx_then ?_
    refine ws_seq ?_
    refine ws_region ?_
    refine wl_x (ox_move rfl rfl) rfl rfl rfl ?_
    refine wl_x (ox_assign rfl rfl) rfl rfl rfl ?_
    refine wl_nil ?_
    refine nx_then ?_
    refine ws_ret ?_
    rw [ho] at hO
    refine nx_freezeL hO (fun h' hle hR' => ?_)
    exact nx_ret1 rfl rfl (⟨rfl, hR'⟩)
end Go.Proofs.Ythdkhnjnhhofgaa
