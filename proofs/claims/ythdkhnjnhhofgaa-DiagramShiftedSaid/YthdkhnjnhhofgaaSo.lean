/- Walks: the library's sort at integers. -/
import Derived.Test.YthdkhnjnhhofgaaEl
import Derived.Test.YthdkhnjnhhofgaaEng10
set_option linter.unusedSimpArgs false
set_option linter.unusedVariables false
set_option maxRecDepth 100000
namespace Go.Proofs.Ythdkhnjnhhofgaa
open Go.Eng Go.RowKit Go.Sort

theorem isNaN_ok (a : Int) (h : Hp) (ms : List Hp) : FnV Try.prog 70 #[.int .i64 a] h ms (.bool false) := by
  refine FnV.weaken (FnT.toV ?_) (Hp.emp_le h)
  refine fn_enter Try.func70 Try.ntmps70 rfl rfl (fun w0 hw0 => ?_)
  simp only [argS]
  refine ws_seq ?_
  refine ws_region ?_
  refine wl_x (ox_assign rfl rfl) rfl rfl rfl ?_
  refine wl_nil ?_
  refine nx_then ?_
  refine ws_seq ?_
  refine ws_region ?_
  refine wl_x (ox_move rfl rfl) rfl rfl rfl ?_
  refine wl_x (ox_move rfl rfl) rfl rfl rfl ?_
  refine wl_x (ox_nei rfl rfl rfl) rfl rfl rfl ?_
  refine wl_x (ox_assign rfl rfl) rfl rfl rfl ?_
  refine wl_nil ?_
  refine nx_then ?_
  refine ws_ret ?_
  exact nx_ret1 rfl rfl (by simp)
theorem less_ok (a b : Int) (h : Hp) (ms : List Hp) : FnV Try.prog 59 #[.int .i64 a, .int .i64 b] h ms (.bool (ltInt a b)) := by
  refine FnV.weaken (FnT.toV ?_) (Hp.emp_le h)
  refine fn_enter Try.func59 Try.ntmps59 rfl rfl (fun w0 hw0 => ?_)
  simp only [argS]
  refine ws_seq ?_
  refine ws_region ?_
  refine wl_x (ox_assign rfl rfl) rfl rfl rfl ?_
  refine wl_nil ?_
  refine nx_then ?_
  refine ws_seq ?_
  refine ws_region ?_
  refine wl_x (ox_move rfl rfl) rfl rfl rfl ?_
  refine wl_x (ox_call rfl Try.call70 rfl (isNaN_ok _ _ _)) rfl rfl rfl ?_
  refine wl_x (ox_move rfl rfl) rfl rfl rfl ?_
  refine wl_skip rfl rfl rfl rfl rfl rfl rfl ?_
  refine wl_skip rfl rfl rfl rfl rfl rfl rfl ?_
  refine wl_skip rfl rfl rfl rfl rfl rfl rfl ?_
  refine wl_x (ox_pick_f rfl rfl rfl) rfl rfl rfl ?_
  refine wl_x (ox_move rfl rfl) rfl rfl rfl ?_
  refine wl_gx (ox_move rfl rfl) rfl rfl rfl rfl rfl rfl ?_
  refine wl_gx (ox_move rfl rfl) rfl rfl rfl rfl rfl rfl ?_
  refine wl_gx (ox_lss rfl rfl rfl) rfl rfl rfl rfl rfl rfl ?_
  refine wl_x (ox_pick_f rfl rfl rfl) rfl rfl rfl ?_
  refine wl_x (ox_assign rfl rfl) rfl rfl rfl ?_
  refine wl_nil ?_
  refine nx_then ?_
  refine ws_ret ?_
  exact nx_ret1 rfl rfl (by first | rfl | simp [ltInt])

/-- The owned slice of integers. -/
abbrev OI (m : Hp) (v : Value) (d : Array Int) : Prop := OwnL cI 1 3 m v d.toList
theorem OI.get {m : Hp} {v : Value} {d : Array Int} {h : Hp} {ms : List Hp} (O : OI m v d) (hm : m ∈ ms) {j : Nat} (hj : j < d.size) : Cell h ms ((vbase v).add (j * 1)) (.int .i64 d[j]!) := (OwnL.rd O hm).getA (fun _ => rfl) hj
theorem OI.rd {m : Hp} {v : Value} {d : Array Int} {h : Hp} {ms : List Hp} (O : OI m v d) (hm : m ∈ ms) : Rd h ms v 1 d.size (d.toList.flatMap cI) := by
  have := (OwnL.rd O hm (h := h)).rd; rwa [Array.length_toList] at this

theorem wl_storeI {e : Entry} {Q : Exit → Act → World → Prop} {ops : Array Oper} {rest : List Oper} {o : Oper} {s : Slots} {h : Hp} {ms : List Hp} {v : Value} {m : Hp} {t : TypeId} {x y : Operand} {z : Value} {bytes : Nat} {a : Int} {d : Array Int} (i j : Nat) (O : OI m v d) (ho : o.op = .store t x y) (hs : Elem e.P t 1 z bytes) (hx : ev s x = some (.pointer (some ((vbase v).add (j * 1))))) (hy : ev s y = some (.int .i64 a))
    (hm : ms[i]? = some m) (hj : j < d.size) (hd : o.dst = none) (hg : o.guard = none)
    (K : ∀ m', (d.setIfInBounds j a).size = d.size → OI m' v (d.setIfInBounds j a) → WL e ops Q rest s h (ms.set i m')) : WL e ops Q (o :: rest) s h ms :=
  wl_storeA1 (F := cI) (f := fun x => .int .i64 x) i j (fun _ => rfl) O ho hs hx hy rfl hm hj hd hg fun m' => K m' (by simp)

/-- What a function that sorts in place leaves. -/
def Left (h : Hp) (v : Value) (d : Array Int) : Value → Hp → List Hp → Prop := fun _ h' ms' => h = h' ∧ ∃ m, ms' = [m] ∧ OI m v d

theorem insInner_size (lt : Int → Int → Bool) (a : Nat) : ∀ (j : Nat) (d : Array Int), (insInner lt a j d).size = d.size
  | 0, d => rfl
  | j + 1, d => by unfold insInner; split <;> simp [insInner_size lt a j, size_swp]

theorem insertionSort_ok (d : Array Int) (v : Value) (m : Hp) (hO : OI m v d) (a b : Nat) (hab : a ≤ b) (hb : b ≤ d.size) (hsz : d.size ≤ 2305843009213693951) (h : Hp) {a' b' : Int} (ea : a' = a) (eb : b' = b) : FnT Try.prog 53 #[v, .int .i64 a', .int .i64 b'] h [m] (Left h v (insertionSort ltInt d a b)) := by
  subst ea eb
  refine fn_enter Try.func53 Try.ntmps53 rfl rfl (fun w0 hw0 => ?_)
  simp only [argS]
  refine ws_seq ?_
  refine ws_region ?_
  refine wl_x (ox_move rfl rfl) rfl rfl rfl ?_
  refine wl_x (ox_add rfl rfl rfl (by omega)) rfl rfl rfl ?_
  refine wl_x (ox_assign rfl rfl) rfl rfl rfl ?_
  refine wl_nil ?_
  refine nx_then ?_
  refine ws_block ?_
  refine ws_loop (fun n s h' ms' => ∃ (i : Nat) (z : Int) (d' : Array Int) (m : Hp), n = b - i ∧ s = [(0, v), (1, .int .i64 a), (2, .int .i64 b), (6, .int .i64 z)] ∧ h = h' ∧ ms' = [m] ∧ z = i ∧ a < i ∧ i ≤ 4611686018427387905 ∧ OI m v d' ∧ d'.size = d.size ∧ insOuter ltInt a b i d' = insertionSort ltInt d a b)
    _ _ ⟨a + 1, (a : Int) + 1, d, m, rfl, rfl, rfl, rfl, by omega, by omega, by omega, hO, rfl, rfl⟩ (by repeat (first | exact trivial | refine ⟨rfl, ?_⟩)) ?_
  rintro n s h' ms' ⟨i, z, d', m, rfl, rfl, rfl, rfl, hz, hai, hi, hO, hds, hR⟩
  refine ws_seq ?_
  refine ws_seq ?_
  refine ws_region ?_
  refine wl_x (ox_move rfl rfl) rfl rfl rfl ?_
  refine wl_x (ox_move rfl rfl) rfl rfl rfl ?_
  refine wl_x (ox_lss rfl rfl rfl) rfl rfl rfl ?_
  refine wl_nil ?_
  refine nx_then ?_
  refine ws_if rfl (fun hlt => ?_) (fun hlt => ?_)
  · skip
    refine ws_skip ?_
    refine nx_then ?_
    refine ws_seq ?_
    refine ws_block ?_
    refine ws_seq ?_
    refine ws_region ?_
    refine wl_x (ox_move rfl rfl) rfl rfl rfl ?_
    refine wl_x (ox_assign rfl rfl) rfl rfl rfl ?_
    refine wl_nil ?_
    refine nx_then ?_
    refine ws_block ?_
    refine ws_loop (fun n s h' ms' => ∃ (j : Nat) (y : Int) (d' : Array Int) (m : Hp), j = n ∧ s = [(0, v), (1, .int .i64 a), (2, .int .i64 b), (6, .int .i64 z), (7, .int .i64 y)] ∧ h = h' ∧ ms' = [m] ∧ y = j ∧ j ≤ i ∧ OI m v d' ∧ d'.size = d.size ∧ insOuter ltInt a b (i + 1) (insInner ltInt a j d') = insertionSort ltInt d a b)
      _ _ ⟨i, z, d', m, rfl, rfl, rfl, rfl, hz, by omega, hO, hds, by rw [← hR]; conv => rhs; unfold insOuter; rw [if_pos (by omega)]⟩ (by repeat (first | exact trivial | refine ⟨rfl, ?_⟩)) ?_
    rintro n s h' ms' ⟨j, y, d1, m1, rfl, rfl, rfl, rfl, hy, hji, hO1, hds1, hR1⟩
    refine ws_seq ?_
    refine ws_seq ?_
    refine ws_draw 13 fol (by kernel_rfl) rfl ?_
    simp only [List.take_succ_cons, List.take_zero, List.drop_succ_cons, List.drop_zero, List.take_nil, List.drop_nil]
    refine wr_x (ox_move rfl rfl) rfl rfl ?_
    refine wr_x (ox_move rfl rfl) rfl rfl ?_
    refine wr_x (ox_gtr rfl rfl rfl) rfl rfl ?_
    refine wr_x (ox_move rfl rfl) rfl rfl ?_
    refine wr_split (t := 19) rfl (fun hja => ?_) (fun hja => ?_)
    · skip
      refine wr_gx (ox_move rfl rfl) rfl rfl rfl rfl ?_
      refine wr_gx (ox_move rfl rfl) rfl rfl rfl rfl ?_
      first | refine wr_gx (ox_index (j) rfl Try.underlying23 el3 rfl rfl (by omega) (by omega)) rfl rfl rfl rfl ?_ | refine wr_gx (ox_indexR (j) (hO1.rd (.head _)) rfl Try.underlying23 el3 rfl rfl (by omega) (by omega)) rfl rfl rfl rfl ?_
      refine wr_gx (ox_load rfl Try.underlying3 rfl rfl (by first | exact hO1.get (.head _) (by omega))) rfl rfl rfl rfl ?_
      refine wr_gx (ox_move rfl rfl) rfl rfl rfl rfl ?_
      refine wr_gx (ox_move rfl rfl) rfl rfl rfl rfl ?_
      refine wr_gx (ox_sub rfl rfl rfl (by omega)) rfl rfl rfl rfl ?_
      first | refine wr_gx (ox_index (j - 1) rfl Try.underlying23 el3 rfl rfl (by omega) (by omega)) rfl rfl rfl rfl ?_ | refine wr_gx (ox_indexR (j - 1) (hO1.rd (.head _)) rfl Try.underlying23 el3 rfl rfl (by omega) (by omega)) rfl rfl rfl rfl ?_
      refine wr_gx (ox_load rfl Try.underlying3 rfl rfl (by first | exact hO1.get (.head _) (by omega))) rfl rfl rfl rfl ?_
      refine wr_nil ?_
      refine wl_gx (ox_call rfl Try.call59 rfl (less_ok _ _ _ _)) rfl rfl rfl rfl rfl rfl ?_
      refine wl_x (ox_pick_t rfl rfl rfl) rfl rfl rfl ?_
      refine wl_nil ?_
      refine nx_then ?_
      refine ws_cond rfl (fun hl => ?_) (fun hl => ?_)
      · skip
        refine ws_skip ?_
        refine nx_then ?_
        refine ws_seq ?_
        refine ws_block ?_
        refine ws_drawP 14 [false, false, true, true, true] fol (by kernel_rfl) (by kernel_rfl) (by kernel_rfl) ?_
        refine pz_x rfl rfl rfl rfl (px_move rfl rfl) ?_
        refine pz_x rfl rfl rfl rfl (px_move rfl rfl) ?_
        refine pz_x rfl rfl rfl rfl (px_sub rfl rfl rfl (by omega)) ?_
        refine ⟨rfl, ?_⟩
        simp only [zapL, zap, List.cons_append, List.nil_append, List.take_succ_cons, List.take_zero, List.drop_succ_cons, List.drop_zero, List.take_nil, List.drop_nil]
        refine wr_x (ox_move rfl rfl) rfl rfl ?_
        refine wr_x (ox_move rfl rfl) rfl rfl ?_
        refine wr_z rfl rfl rfl ?_
        refine wr_z rfl rfl rfl ?_
        refine wr_z rfl rfl rfl ?_
        refine wr_x (ox_move rfl rfl) rfl rfl ?_
        refine wr_x (ox_move rfl rfl) rfl rfl ?_
        refine wr_x (ox_sub rfl rfl rfl (by omega)) rfl rfl ?_
        first | refine wr_x (ox_index (j - 1) rfl Try.underlying23 el3 rfl rfl (by omega) (by omega)) rfl rfl ?_ | refine wr_x (ox_indexR (j - 1) (hO1.rd (.head _)) rfl Try.underlying23 el3 rfl rfl (by omega) (by omega)) rfl rfl ?_
        refine wr_x (ox_load rfl Try.underlying3 rfl rfl (by first | exact hO1.get (.head _) (by omega))) rfl rfl ?_
        refine wr_x (ox_move rfl rfl) rfl rfl ?_
        refine wr_x (ox_move rfl rfl) rfl rfl ?_
        first | refine wr_x (ox_index (j) rfl Try.underlying23 el3 rfl rfl (by omega) (by omega)) rfl rfl ?_ | refine wr_x (ox_indexR (j) (hO1.rd (.head _)) rfl Try.underlying23 el3 rfl rfl (by omega) (by omega)) rfl rfl ?_
        refine wr_x (ox_load rfl Try.underlying3 rfl rfl (by first | exact hO1.get (.head _) (by omega))) rfl rfl ?_
        refine wr_nil ?_
        first | refine wl_x (ox_index (j) rfl Try.underlying23 el3 rfl rfl (by omega) (by omega)) rfl rfl rfl ?_ | refine wl_x (ox_indexR (j) (hO1.rd (.head _)) rfl Try.underlying23 el3 rfl rfl (by omega) (by omega)) rfl rfl rfl ?_
        refine wl_storeI 0 _ hO1 rfl el3 rfl rfl rfl (by omega) rfl rfl (fun mhO2 hzhO2 hO2 => ?_)
        first | refine wl_x (ox_index (j - 1) rfl Try.underlying23 el3 rfl rfl (by omega) (by omega)) rfl rfl rfl ?_ | refine wl_x (ox_indexR (j - 1) (hO2.rd (.head _)) rfl Try.underlying23 el3 rfl rfl (by omega) (by omega)) rfl rfl rfl ?_
        refine wl_storeI 0 _ hO2 rfl el3 rfl rfl rfl (by omega) rfl rfl (fun mhO3 hzhO3 hO3 => ?_)
        refine wl_nil ?_
        refine nx_q0 ?_
        refine nx_block ?_
        refine nx_then ?_
        refine ws_region ?_
        refine wl_x (ox_move rfl rfl) rfl rfl rfl ?_
        refine wl_x (ox_sub rfl rfl rfl (by omega)) rfl rfl rfl ?_
        refine wl_x (ox_assign rfl rfl) rfl rfl rfl ?_
        refine wl_nil ?_
        obtain ⟨j', rfl⟩ : ∃ j', j = j' + 1 := ⟨j - 1, by omega⟩
        refine nx_round j' _ (by omega) ⟨j', y - 1, _, mhO3, rfl, rfl, rfl, rfl, by omega, by omega, hO3, by simp [hds1], ?_⟩ (by repeat (first | exact trivial | refine ⟨rfl, ?_⟩))
        rw [← hR1]
        conv => rhs; unfold insInner
        rw [if_pos (by simp; exact ⟨by omega, by simpa using hl⟩)]
        rfl
      · skip
        refine ws_exit ?_
        refine nx_then_exit ?_
        refine nx_then_exit ?_
        refine nx_block_exit ?_
        refine nx_block ?_
        refine nx_then ?_
        refine ws_region ?_
        refine wl_x (ox_move rfl rfl) rfl rfl rfl ?_
        refine wl_x (ox_add rfl rfl rfl (by omega)) rfl rfl rfl ?_
        refine wl_x (ox_assign rfl rfl) rfl rfl rfl ?_
        refine wl_nil ?_
        refine nx_round (b - (i + 1)) _ (by omega) ⟨i + 1, z + 1, d1, m1, rfl, rfl, rfl, rfl, by omega, by omega, by omega, hO1, hds1, ?_⟩ (by repeat (first | exact trivial | refine ⟨rfl, ?_⟩))
        rw [← hR1]
        obtain ⟨j', rfl⟩ : ∃ j', j = j' + 1 := ⟨j - 1, by omega⟩
        conv => rhs; unfold insInner
        rw [if_neg (by simp; intro _; simpa using hl)]
    · skip
      refine wr_skip rfl rfl rfl rfl rfl ?_
      refine wr_skip rfl rfl rfl rfl rfl ?_
      refine wr_skip rfl rfl rfl rfl rfl ?_
      refine wr_skip rfl rfl rfl rfl rfl ?_
      refine wr_skip rfl rfl rfl rfl rfl ?_
      refine wr_skip rfl rfl rfl rfl rfl ?_
      refine wr_skip rfl rfl rfl rfl rfl ?_
      refine wr_skip rfl rfl rfl rfl rfl ?_
      refine wr_skip rfl rfl rfl rfl rfl ?_
      refine wr_nil ?_
      refine wl_skip rfl rfl rfl rfl rfl rfl rfl ?_
      refine wl_x (ox_pick_f rfl rfl rfl) rfl rfl rfl ?_
      refine wl_nil ?_
      refine nx_then ?_
      refine ws_cond_f rfl ?_
      refine ws_exit ?_
      refine nx_then_exit ?_
      refine nx_then_exit ?_
      refine nx_block_exit ?_
      refine nx_block ?_
      refine nx_then ?_
      refine ws_region ?_
      refine wl_x (ox_move rfl rfl) rfl rfl rfl ?_
      refine wl_x (ox_add rfl rfl rfl (by omega)) rfl rfl rfl ?_
      refine wl_x (ox_assign rfl rfl) rfl rfl rfl ?_
      refine wl_nil ?_
      refine nx_round (b - (i + 1)) _ (by omega) ⟨i + 1, z + 1, d1, m1, rfl, rfl, rfl, rfl, by omega, by omega, by omega, hO1, hds1, ?_⟩ (by repeat (first | exact trivial | refine ⟨rfl, ?_⟩))
      rw [← hR1]
      cases j with
      | zero => rfl
      | succ j' =>
        conv => rhs; unfold insInner
        rw [if_neg (by simp; intro h'; omega)]
  · skip
    refine ws_exit ?_
    refine nx_then_exit ?_
    refine nx_then_exit ?_
    refine nx_block_exit ?_
    exact nx_end0 rfl (⟨rfl, m, rfl, by rw [← hR]; unfold insOuter; rw [if_neg (by omega)]; exact hO⟩)

theorem reverseRange_ok (d : Array Int) (v : Value) (m : Hp) (hO : OI m v d) (a b : Nat) (hab : a < b) (hb : b ≤ d.size) (hsz : d.size ≤ 2305843009213693951) (h : Hp) {a' b' : Int} (ea : a' = a) (eb : b' = b) : FnT Try.prog 57 #[v, .int .i64 a', .int .i64 b'] h [m] (Left h v (reverseRange d a b)) := by
  subst ea eb
  refine fn_enter Try.func57 Try.ntmps57 rfl rfl (fun w0 hw0 => ?_)
  simp only [argS]
  refine ws_seq ?_
  refine ws_region ?_
  refine wl_x (ox_move rfl rfl) rfl rfl rfl ?_
  refine wl_x (ox_assign rfl rfl) rfl rfl rfl ?_
  refine wl_nil ?_
  refine nx_then ?_
  refine ws_seq ?_
  refine ws_region ?_
  refine wl_x (ox_move rfl rfl) rfl rfl rfl ?_
  refine wl_x (ox_sub rfl rfl rfl (by omega)) rfl rfl rfl ?_
  refine wl_x (ox_assign rfl rfl) rfl rfl rfl ?_
  refine wl_nil ?_
  refine nx_then ?_
  refine ws_block ?_
  refine ws_loop (fun n s h' ms' => ∃ (i j : Nat) (y z : Int) (d' : Array Int) (m : Hp), n = j - i ∧ s = [(0, v), (6, .int .i64 y), (7, .int .i64 z)] ∧ h = h' ∧ ms' = [m] ∧ y = i ∧ z = j ∧ j < b ∧ i ≤ b ∧ OI m v d' ∧ d'.size = d.size ∧ reverseLoop i j d' = reverseRange d a b)
    _ _ ⟨a, b - 1, (a : Int), (b : Int) - 1, d, m, rfl, rfl, rfl, rfl, by omega, by omega, by omega, by omega, hO, rfl, rfl⟩ (by repeat (first | exact trivial | refine ⟨rfl, ?_⟩)) ?_
  rintro n s h' ms' ⟨i, j, y, z, d0, m0, rfl, rfl, rfl, rfl, hy, hz, hjb, hib, hO0, hds, hR⟩
  refine ws_seq ?_
  refine ws_seq ?_
  refine ws_region ?_
  refine wl_x (ox_move rfl rfl) rfl rfl rfl ?_
  refine wl_x (ox_move rfl rfl) rfl rfl rfl ?_
  refine wl_x (ox_lss rfl rfl rfl) rfl rfl rfl ?_
  refine wl_nil ?_
  refine nx_then ?_
  refine ws_if rfl (fun hlt => ?_) (fun hlt => ?_)
  · skip
    refine ws_skip ?_
    refine nx_then ?_
    refine ws_block ?_
    refine ws_seq ?_
    refine ws_drawP 12 [false, false, true, true] fol (by kernel_rfl) (by kernel_rfl) (by kernel_rfl) ?_
    refine pz_x rfl rfl rfl rfl (px_move rfl rfl) ?_
    refine pz_x rfl rfl rfl rfl (px_move rfl rfl) ?_
    refine ⟨rfl, ?_⟩
    simp only [zapL, zap, List.cons_append, List.nil_append, List.take_succ_cons, List.take_zero, List.drop_succ_cons, List.drop_zero, List.take_nil, List.drop_nil]
    refine wr_x (ox_move rfl rfl) rfl rfl ?_
    refine wr_x (ox_move rfl rfl) rfl rfl ?_
    refine wr_z rfl rfl rfl ?_
    refine wr_z rfl rfl rfl ?_
    refine wr_x (ox_move rfl rfl) rfl rfl ?_
    refine wr_x (ox_move rfl rfl) rfl rfl ?_
    first | refine wr_x (ox_index j rfl Try.underlying23 el3 rfl rfl (by omega) (by omega)) rfl rfl ?_ | refine wr_x (ox_indexR j (hO0.rd (.head _)) rfl Try.underlying23 el3 rfl rfl (by omega) (by omega)) rfl rfl ?_
    refine wr_x (ox_load rfl Try.underlying3 rfl rfl (by first | exact hO0.get (.head _) (by omega))) rfl rfl ?_
    refine wr_x (ox_move rfl rfl) rfl rfl ?_
    refine wr_x (ox_move rfl rfl) rfl rfl ?_
    first | refine wr_x (ox_index i rfl Try.underlying23 el3 rfl rfl (by omega) (by omega)) rfl rfl ?_ | refine wr_x (ox_indexR i (hO0.rd (.head _)) rfl Try.underlying23 el3 rfl rfl (by omega) (by omega)) rfl rfl ?_
    refine wr_x (ox_load rfl Try.underlying3 rfl rfl (by first | exact hO0.get (.head _) (by omega))) rfl rfl ?_
    refine wr_nil ?_
    first | refine wl_x (ox_index i rfl Try.underlying23 el3 rfl rfl (by omega) (by omega)) rfl rfl rfl ?_ | refine wl_x (ox_indexR i (hO0.rd (.head _)) rfl Try.underlying23 el3 rfl rfl (by omega) (by omega)) rfl rfl rfl ?_
    refine wl_storeI 0 _ hO0 rfl el3 rfl rfl rfl (by omega) rfl rfl (fun mhO1 hzhO1 hO1 => ?_)
    first | refine wl_x (ox_index j rfl Try.underlying23 el3 rfl rfl (by omega) (by omega)) rfl rfl rfl ?_ | refine wl_x (ox_indexR j (hO1.rd (.head _)) rfl Try.underlying23 el3 rfl rfl (by omega) (by omega)) rfl rfl rfl ?_
    refine wl_storeI 0 _ hO1 rfl el3 rfl rfl rfl (by omega) rfl rfl (fun mhO2 hzhO2 hO2 => ?_)
    refine wl_nil ?_
    refine nx_q0 ?_
    refine nx_then ?_
    refine ws_seq ?_
    refine ws_region ?_
    refine wl_x (ox_move rfl rfl) rfl rfl rfl ?_
    refine wl_x (ox_add rfl rfl rfl (by omega)) rfl rfl rfl ?_
    refine wl_x (ox_assign rfl rfl) rfl rfl rfl ?_
    refine wl_nil ?_
    refine nx_then ?_
    refine ws_region ?_
    refine wl_x (ox_move rfl rfl) rfl rfl rfl ?_
    refine wl_x (ox_sub rfl rfl rfl (by omega)) rfl rfl rfl ?_
    refine wl_x (ox_assign rfl rfl) rfl rfl rfl ?_
    refine wl_nil ?_
    refine nx_block ?_
    refine nx_round ((j - 1) - (i + 1)) _ (by omega) ⟨i + 1, j - 1, y + 1, z - 1, _, mhO2, rfl, rfl, rfl, rfl, by omega, by omega, by omega, by omega, hO2, by omega, ?_⟩ (by repeat (first | exact trivial | refine ⟨rfl, ?_⟩))
    rw [← hR]; conv => rhs; unfold reverseLoop
    rw [if_pos (by omega)]; rfl
  · skip
    refine ws_exit ?_
    refine nx_then_exit ?_
    refine nx_then_exit ?_
    refine nx_block_exit ?_
    exact nx_end0 rfl (⟨rfl, m0, rfl, by rw [← hR]; unfold reverseLoop; rw [if_neg (by omega)]; exact hO0⟩)

theorem siftDown_ok (d : Array Int) (v : Value) (m : Hp) (hO : OI m v d) (lo hi first : Nat) (hb : first + hi ≤ d.size) (hlo : lo ≤ hi) (hsz : d.size ≤ 2305843009213693951) (h : Hp) {a' b' c' : Int} (ea : a' = lo) (eb : b' = hi) (ec : c' = first) : FnT Try.prog 65 #[v, .int .i64 a', .int .i64 b', .int .i64 c'] h [m] (Left h v (siftDown ltInt hi first lo d)) := by
  subst ea eb ec
  refine fn_enter Try.func65 Try.ntmps65 rfl rfl (fun w0 hw0 => ?_)
  simp only [argS]
  refine ws_seq ?_
  refine ws_region ?_
  refine wl_x (ox_move rfl rfl) rfl rfl rfl ?_
  refine wl_x (ox_assign rfl rfl) rfl rfl rfl ?_
  refine wl_nil ?_
  refine nx_then ?_
  refine ws_block ?_
  refine ws_loop (fun n s h' ms' => ∃ (r : Nat) (y : Int) (d' : Array Int) (m : Hp), n = hi - r ∧ s = [(0, v), (2, .int .i64 hi), (3, .int .i64 first), (8, .int .i64 y)] ∧ h = h' ∧ ms' = [m] ∧ y = r ∧ r ≤ hi ∧ OI m v d' ∧ d'.size = d.size ∧ siftDown ltInt hi first r d' = siftDown ltInt hi first lo d)
    _ _ ⟨lo, (lo : Int), d, m, rfl, rfl, rfl, rfl, by omega, by omega, hO, rfl, rfl⟩ (by repeat (first | exact trivial | refine ⟨rfl, ?_⟩)) ?_
  rintro n s h' ms' ⟨r, y, d0, m0, rfl, rfl, rfl, rfl, hy, hr, hO0, hds, hR⟩
  refine ws_block ?_
  refine ws_seq ?_
  refine ws_region ?_
  refine wl_x (ox_move rfl rfl) rfl rfl rfl ?_
  refine wl_x (ox_mul rfl rfl rfl (by omega)) rfl rfl rfl ?_
  refine wl_x (ox_add rfl rfl rfl (by omega)) rfl rfl rfl ?_
  refine wl_x (ox_assign rfl rfl) rfl rfl rfl ?_
  refine wl_nil ?_
  refine nx_then ?_
  refine ws_seq ?_
  refine ws_seq ?_
  refine ws_region ?_
  refine wl_x (ox_move rfl rfl) rfl rfl rfl ?_
  refine wl_x (ox_move rfl rfl) rfl rfl rfl ?_
  refine wl_x (ox_geq rfl rfl rfl) rfl rfl rfl ?_
  refine wl_nil ?_
  refine nx_then ?_
  refine ws_if rfl (fun hge => ?_) (fun hge => ?_)
  · skip
    refine ws_exit ?_
    refine nx_then_exit ?_
    refine nx_block_out rfl ?_
    refine nx_then_exit ?_
    refine nx_block_exit ?_
    exact nx_end0 rfl (⟨rfl, m0, rfl, by rw [← hR]; unfold siftDown; rw [dif_pos (by omega)]; exact hO0⟩)
  · skip
    refine ws_skip ?_
    refine nx_then ?_
    refine ws_seq ?_
    refine ws_seq ?_
    refine ws_draw 18 fol (by kernel_rfl) rfl ?_
    simp only [List.take_succ_cons, List.take_zero, List.drop_succ_cons, List.drop_zero, List.take_nil, List.drop_nil]
    refine wr_x (ox_move rfl rfl) rfl rfl ?_
    refine wr_x (ox_add rfl rfl rfl (by omega)) rfl rfl ?_
    refine wr_x (ox_move rfl rfl) rfl rfl ?_
    refine wr_x (ox_lss rfl rfl rfl) rfl rfl ?_
    refine wr_x (ox_move rfl rfl) rfl rfl ?_
    refine wr_split (t := 21) rfl (fun h1 => ?_) (fun h1 => ?_)
    · skip
      refine wr_gx (ox_move rfl rfl) rfl rfl rfl rfl ?_
      refine wr_gx (ox_move rfl rfl) rfl rfl rfl rfl ?_
      refine wr_gx (ox_move rfl rfl) rfl rfl rfl rfl ?_
      refine wr_gx (ox_add rfl rfl rfl (by omega)) rfl rfl rfl rfl ?_
      first | refine wr_gx (ox_index (first + ((2 * r) + 1)) rfl Try.underlying23 el3 rfl rfl (by omega) (by omega)) rfl rfl rfl rfl ?_ | refine wr_gx (ox_indexR (first + ((2 * r) + 1)) (hO0.rd (.head _)) rfl Try.underlying23 el3 rfl rfl (by omega) (by omega)) rfl rfl rfl rfl ?_
      refine wr_gx (ox_load rfl Try.underlying3 rfl rfl (by first | exact hO0.get (.head _) (by omega))) rfl rfl rfl rfl ?_
      refine wr_gx (ox_move rfl rfl) rfl rfl rfl rfl ?_
      refine wr_gx (ox_move rfl rfl) rfl rfl rfl rfl ?_
      refine wr_gx (ox_move rfl rfl) rfl rfl rfl rfl ?_
      refine wr_gx (ox_add rfl rfl rfl (by omega)) rfl rfl rfl rfl ?_
      refine wr_gx (ox_add rfl rfl rfl (by omega)) rfl rfl rfl rfl ?_
      first | refine wr_gx (ox_index ((first + ((2 * r) + 1)) + 1) rfl Try.underlying23 el3 rfl rfl (by omega) (by omega)) rfl rfl rfl rfl ?_ | refine wr_gx (ox_indexR ((first + ((2 * r) + 1)) + 1) (hO0.rd (.head _)) rfl Try.underlying23 el3 rfl rfl (by omega) (by omega)) rfl rfl rfl rfl ?_
      refine wr_gx (ox_load rfl Try.underlying3 rfl rfl (by first | exact hO0.get (.head _) (by omega))) rfl rfl rfl rfl ?_
      refine wr_nil ?_
      refine wl_gx (ox_call rfl Try.call59 rfl (less_ok _ _ _ _)) rfl rfl rfl rfl rfl rfl ?_
      refine wl_x (ox_pick_t rfl rfl rfl) rfl rfl rfl ?_
      refine wl_nil ?_
      refine nx_then ?_
      refine ws_cond rfl (fun h2 => ?_) (fun h2 => ?_)
      · skip
        refine ws_region ?_
        refine wl_x (ox_move rfl rfl) rfl rfl rfl ?_
        refine wl_x (ox_add rfl rfl rfl (by omega)) rfl rfl rfl ?_
        refine wl_x (ox_assign rfl rfl) rfl rfl rfl ?_
        refine wl_nil ?_
        refine nx_then ?_
        refine ws_seq ?_
        refine ws_seq ?_
        refine ws_draw 12 fol (by kernel_rfl) rfl ?_
        simp only [List.take_succ_cons, List.take_zero, List.drop_succ_cons, List.drop_zero, List.take_nil, List.drop_nil]
        refine wr_x (ox_move rfl rfl) rfl rfl ?_
        refine wr_x (ox_move rfl rfl) rfl rfl ?_
        refine wr_x (ox_move rfl rfl) rfl rfl ?_
        refine wr_x (ox_add rfl rfl rfl (by omega)) rfl rfl ?_
        first | refine wr_x (ox_index (first + r) rfl Try.underlying23 el3 rfl rfl (by omega) (by omega)) rfl rfl ?_ | refine wr_x (ox_indexR (first + r) (hO0.rd (.head _)) rfl Try.underlying23 el3 rfl rfl (by omega) (by omega)) rfl rfl ?_
        refine wr_x (ox_load rfl Try.underlying3 rfl rfl (by first | exact hO0.get (.head _) (by omega))) rfl rfl ?_
        refine wr_x (ox_move rfl rfl) rfl rfl ?_
        refine wr_x (ox_move rfl rfl) rfl rfl ?_
        refine wr_x (ox_move rfl rfl) rfl rfl ?_
        refine wr_x (ox_add rfl rfl rfl (by omega)) rfl rfl ?_
        first | refine wr_x (ox_index (first + (2 * r + 2)) rfl Try.underlying23 el3 rfl rfl (by omega) (by omega)) rfl rfl ?_ | refine wr_x (ox_indexR (first + (2 * r + 2)) (hO0.rd (.head _)) rfl Try.underlying23 el3 rfl rfl (by omega) (by omega)) rfl rfl ?_
        refine wr_x (ox_load rfl Try.underlying3 rfl rfl (by first | exact hO0.get (.head _) (by omega))) rfl rfl ?_
        refine wr_nil ?_
        refine wl_x (ox_call rfl Try.call59 rfl (less_ok _ _ _ _)) rfl rfl rfl ?_
        refine wl_x (ox_not rfl rfl) rfl rfl rfl ?_
        refine wl_nil ?_
        refine nx_then ?_
        refine ws_cond rfl (fun h3 => ?_) (fun h3 => ?_)
        · skip
          refine ws_ret ?_
          refine nx_then_ret ?_
          refine nx_block_ret ?_
          refine nx_then_ret ?_
          refine nx_block_ret ?_
          exact nx_ret0 rfl (⟨rfl, m0, rfl, by rw [← hR]; unfold siftDown; rw [dif_neg (by omega)]; rw [if_pos (by simp; exact ⟨by omega, by simpa [Nat.add_assoc] using h2⟩)]; rw [if_pos (by simpa using h3)]; exact hO0⟩)
        · skip
          refine ws_skip ?_
          refine nx_then ?_
          refine ws_seq ?_
          refine ws_drawP 20 [false, false, false, false, true, true, true, true] fol (by kernel_rfl) (by kernel_rfl) (by kernel_rfl) ?_
          refine pz_x rfl rfl rfl rfl (px_move rfl rfl) ?_
          refine pz_x rfl rfl rfl rfl (px_move rfl rfl) ?_
          refine pz_x rfl rfl rfl rfl (px_move rfl rfl) ?_
          refine pz_x rfl rfl rfl rfl (px_add rfl rfl rfl (by omega)) ?_
          refine ⟨rfl, ?_⟩
          simp only [zapL, zap, List.cons_append, List.nil_append, List.take_succ_cons, List.take_zero, List.drop_succ_cons, List.drop_zero, List.take_nil, List.drop_nil]
          refine wr_x (ox_move rfl rfl) rfl rfl ?_
          refine wr_x (ox_move rfl rfl) rfl rfl ?_
          refine wr_x (ox_move rfl rfl) rfl rfl ?_
          refine wr_x (ox_add rfl rfl rfl (by omega)) rfl rfl ?_
          refine wr_z rfl rfl rfl ?_
          refine wr_z rfl rfl rfl ?_
          refine wr_z rfl rfl rfl ?_
          refine wr_z rfl rfl rfl ?_
          refine wr_x (ox_move rfl rfl) rfl rfl ?_
          refine wr_x (ox_move rfl rfl) rfl rfl ?_
          refine wr_x (ox_move rfl rfl) rfl rfl ?_
          refine wr_x (ox_add rfl rfl rfl (by omega)) rfl rfl ?_
          first | refine wr_x (ox_index (first + (2 * r + 2)) rfl Try.underlying23 el3 rfl rfl (by omega) (by omega)) rfl rfl ?_ | refine wr_x (ox_indexR (first + (2 * r + 2)) (hO0.rd (.head _)) rfl Try.underlying23 el3 rfl rfl (by omega) (by omega)) rfl rfl ?_
          refine wr_x (ox_load rfl Try.underlying3 rfl rfl (by first | exact hO0.get (.head _) (by omega))) rfl rfl ?_
          refine wr_x (ox_move rfl rfl) rfl rfl ?_
          refine wr_x (ox_move rfl rfl) rfl rfl ?_
          refine wr_x (ox_move rfl rfl) rfl rfl ?_
          refine wr_x (ox_add rfl rfl rfl (by omega)) rfl rfl ?_
          first | refine wr_x (ox_index (first + r) rfl Try.underlying23 el3 rfl rfl (by omega) (by omega)) rfl rfl ?_ | refine wr_x (ox_indexR (first + r) (hO0.rd (.head _)) rfl Try.underlying23 el3 rfl rfl (by omega) (by omega)) rfl rfl ?_
          refine wr_x (ox_load rfl Try.underlying3 rfl rfl (by first | exact hO0.get (.head _) (by omega))) rfl rfl ?_
          refine wr_nil ?_
          first | refine wl_x (ox_index (first + r) rfl Try.underlying23 el3 rfl rfl (by omega) (by omega)) rfl rfl rfl ?_ | refine wl_x (ox_indexR (first + r) (hO0.rd (.head _)) rfl Try.underlying23 el3 rfl rfl (by omega) (by omega)) rfl rfl rfl ?_
          refine wl_storeI 0 _ hO0 rfl el3 rfl rfl rfl (by omega) rfl rfl (fun mhO1 hzhO1 hO1 => ?_)
          first | refine wl_x (ox_index (first + (2 * r + 2)) rfl Try.underlying23 el3 rfl rfl (by omega) (by omega)) rfl rfl rfl ?_ | refine wl_x (ox_indexR (first + (2 * r + 2)) (hO1.rd (.head _)) rfl Try.underlying23 el3 rfl rfl (by omega) (by omega)) rfl rfl rfl ?_
          refine wl_storeI 0 _ hO1 rfl el3 rfl rfl rfl (by omega) rfl rfl (fun mhO2 hzhO2 hO2 => ?_)
          refine wl_nil ?_
          refine nx_q0 ?_
          refine nx_then ?_
          refine ws_region ?_
          refine wl_x (ox_move rfl rfl) rfl rfl rfl ?_
          refine wl_x (ox_assign rfl rfl) rfl rfl rfl ?_
          refine wl_nil ?_
          refine nx_block ?_
          refine nx_round (hi - (2 * r + 2)) _ (by omega) ⟨2 * r + 2, 2 * y + 1 + 1, _, mhO2, rfl, rfl, rfl, rfl, by omega, by omega, hO2, by omega, ?_⟩ (by repeat (first | exact trivial | refine ⟨rfl, ?_⟩))
          rw [← hR]; conv => rhs; unfold siftDown
          rw [dif_neg (by omega)]
          rw [if_pos (by simp; exact ⟨by omega, by simpa [Nat.add_assoc] using h2⟩)]
          rw [if_neg (by simpa using h3)]
          first | rfl | (rw [dif_pos (show 2 * r + 2 < hi by omega)]; rfl)
      · skip
        refine ws_skip ?_
        refine nx_then ?_
        refine ws_seq ?_
        refine ws_seq ?_
        refine ws_draw 12 fol (by kernel_rfl) rfl ?_
        simp only [List.take_succ_cons, List.take_zero, List.drop_succ_cons, List.drop_zero, List.take_nil, List.drop_nil]
        refine wr_x (ox_move rfl rfl) rfl rfl ?_
        refine wr_x (ox_move rfl rfl) rfl rfl ?_
        refine wr_x (ox_move rfl rfl) rfl rfl ?_
        refine wr_x (ox_add rfl rfl rfl (by omega)) rfl rfl ?_
        first | refine wr_x (ox_index (first + r) rfl Try.underlying23 el3 rfl rfl (by omega) (by omega)) rfl rfl ?_ | refine wr_x (ox_indexR (first + r) (hO0.rd (.head _)) rfl Try.underlying23 el3 rfl rfl (by omega) (by omega)) rfl rfl ?_
        refine wr_x (ox_load rfl Try.underlying3 rfl rfl (by first | exact hO0.get (.head _) (by omega))) rfl rfl ?_
        refine wr_x (ox_move rfl rfl) rfl rfl ?_
        refine wr_x (ox_move rfl rfl) rfl rfl ?_
        refine wr_x (ox_move rfl rfl) rfl rfl ?_
        refine wr_x (ox_add rfl rfl rfl (by omega)) rfl rfl ?_
        first | refine wr_x (ox_index (first + (2 * r + 1)) rfl Try.underlying23 el3 rfl rfl (by omega) (by omega)) rfl rfl ?_ | refine wr_x (ox_indexR (first + (2 * r + 1)) (hO0.rd (.head _)) rfl Try.underlying23 el3 rfl rfl (by omega) (by omega)) rfl rfl ?_
        refine wr_x (ox_load rfl Try.underlying3 rfl rfl (by first | exact hO0.get (.head _) (by omega))) rfl rfl ?_
        refine wr_nil ?_
        refine wl_x (ox_call rfl Try.call59 rfl (less_ok _ _ _ _)) rfl rfl rfl ?_
        refine wl_x (ox_not rfl rfl) rfl rfl rfl ?_
        refine wl_nil ?_
        refine nx_then ?_
        refine ws_cond rfl (fun h3 => ?_) (fun h3 => ?_)
        · skip
          refine ws_ret ?_
          refine nx_then_ret ?_
          refine nx_block_ret ?_
          refine nx_then_ret ?_
          refine nx_block_ret ?_
          exact nx_ret0 rfl (⟨rfl, m0, rfl, by rw [← hR]; unfold siftDown; rw [dif_neg (by omega)]; rw [if_neg (by simp; intro _; simpa [Nat.add_assoc] using h2)]; rw [if_pos (by simpa using h3)]; exact hO0⟩)
        · skip
          refine ws_skip ?_
          refine nx_then ?_
          refine ws_seq ?_
          refine ws_drawP 20 [false, false, false, false, true, true, true, true] fol (by kernel_rfl) (by kernel_rfl) (by kernel_rfl) ?_
          refine pz_x rfl rfl rfl rfl (px_move rfl rfl) ?_
          refine pz_x rfl rfl rfl rfl (px_move rfl rfl) ?_
          refine pz_x rfl rfl rfl rfl (px_move rfl rfl) ?_
          refine pz_x rfl rfl rfl rfl (px_add rfl rfl rfl (by omega)) ?_
          refine ⟨rfl, ?_⟩
          simp only [zapL, zap, List.cons_append, List.nil_append, List.take_succ_cons, List.take_zero, List.drop_succ_cons, List.drop_zero, List.take_nil, List.drop_nil]
          refine wr_x (ox_move rfl rfl) rfl rfl ?_
          refine wr_x (ox_move rfl rfl) rfl rfl ?_
          refine wr_x (ox_move rfl rfl) rfl rfl ?_
          refine wr_x (ox_add rfl rfl rfl (by omega)) rfl rfl ?_
          refine wr_z rfl rfl rfl ?_
          refine wr_z rfl rfl rfl ?_
          refine wr_z rfl rfl rfl ?_
          refine wr_z rfl rfl rfl ?_
          refine wr_x (ox_move rfl rfl) rfl rfl ?_
          refine wr_x (ox_move rfl rfl) rfl rfl ?_
          refine wr_x (ox_move rfl rfl) rfl rfl ?_
          refine wr_x (ox_add rfl rfl rfl (by omega)) rfl rfl ?_
          first | refine wr_x (ox_index (first + (2 * r + 1)) rfl Try.underlying23 el3 rfl rfl (by omega) (by omega)) rfl rfl ?_ | refine wr_x (ox_indexR (first + (2 * r + 1)) (hO0.rd (.head _)) rfl Try.underlying23 el3 rfl rfl (by omega) (by omega)) rfl rfl ?_
          refine wr_x (ox_load rfl Try.underlying3 rfl rfl (by first | exact hO0.get (.head _) (by omega))) rfl rfl ?_
          refine wr_x (ox_move rfl rfl) rfl rfl ?_
          refine wr_x (ox_move rfl rfl) rfl rfl ?_
          refine wr_x (ox_move rfl rfl) rfl rfl ?_
          refine wr_x (ox_add rfl rfl rfl (by omega)) rfl rfl ?_
          first | refine wr_x (ox_index (first + r) rfl Try.underlying23 el3 rfl rfl (by omega) (by omega)) rfl rfl ?_ | refine wr_x (ox_indexR (first + r) (hO0.rd (.head _)) rfl Try.underlying23 el3 rfl rfl (by omega) (by omega)) rfl rfl ?_
          refine wr_x (ox_load rfl Try.underlying3 rfl rfl (by first | exact hO0.get (.head _) (by omega))) rfl rfl ?_
          refine wr_nil ?_
          first | refine wl_x (ox_index (first + r) rfl Try.underlying23 el3 rfl rfl (by omega) (by omega)) rfl rfl rfl ?_ | refine wl_x (ox_indexR (first + r) (hO0.rd (.head _)) rfl Try.underlying23 el3 rfl rfl (by omega) (by omega)) rfl rfl rfl ?_
          refine wl_storeI 0 _ hO0 rfl el3 rfl rfl rfl (by omega) rfl rfl (fun mhO1 hzhO1 hO1 => ?_)
          first | refine wl_x (ox_index (first + (2 * r + 1)) rfl Try.underlying23 el3 rfl rfl (by omega) (by omega)) rfl rfl rfl ?_ | refine wl_x (ox_indexR (first + (2 * r + 1)) (hO1.rd (.head _)) rfl Try.underlying23 el3 rfl rfl (by omega) (by omega)) rfl rfl rfl ?_
          refine wl_storeI 0 _ hO1 rfl el3 rfl rfl rfl (by omega) rfl rfl (fun mhO2 hzhO2 hO2 => ?_)
          refine wl_nil ?_
          refine nx_q0 ?_
          refine nx_then ?_
          refine ws_region ?_
          refine wl_x (ox_move rfl rfl) rfl rfl rfl ?_
          refine wl_x (ox_assign rfl rfl) rfl rfl rfl ?_
          refine wl_nil ?_
          refine nx_block ?_
          refine nx_round (hi - (2 * r + 1)) _ (by omega) ⟨2 * r + 1, 2 * y + 1, _, mhO2, rfl, rfl, rfl, rfl, by omega, by omega, hO2, by omega, ?_⟩ (by repeat (first | exact trivial | refine ⟨rfl, ?_⟩))
          rw [← hR]; conv => rhs; unfold siftDown
          rw [dif_neg (by omega)]
          rw [if_neg (by simp; intro _; simpa [Nat.add_assoc] using h2)]
          rw [if_neg (by simpa using h3)]
          first | rfl | (rw [show True = True from rfl]; rfl)
    · skip
      refine wr_skip rfl rfl rfl rfl rfl ?_
      refine wr_skip rfl rfl rfl rfl rfl ?_
      refine wr_skip rfl rfl rfl rfl rfl ?_
      refine wr_skip rfl rfl rfl rfl rfl ?_
      refine wr_skip rfl rfl rfl rfl rfl ?_
      refine wr_skip rfl rfl rfl rfl rfl ?_
      refine wr_skip rfl rfl rfl rfl rfl ?_
      refine wr_skip rfl rfl rfl rfl rfl ?_
      refine wr_skip rfl rfl rfl rfl rfl ?_
      refine wr_skip rfl rfl rfl rfl rfl ?_
      refine wr_skip rfl rfl rfl rfl rfl ?_
      refine wr_skip rfl rfl rfl rfl rfl ?_
      refine wr_skip rfl rfl rfl rfl rfl ?_
      refine wr_nil ?_
      refine wl_skip rfl rfl rfl rfl rfl rfl rfl ?_
      refine wl_x (ox_pick_f rfl rfl rfl) rfl rfl rfl ?_
      refine wl_nil ?_
      refine nx_then ?_
      refine ws_cond_f rfl ?_
      refine ws_skip ?_
      refine nx_then ?_
      refine ws_seq ?_
      refine ws_seq ?_
      refine ws_draw 12 fol (by kernel_rfl) rfl ?_
      simp only [List.take_succ_cons, List.take_zero, List.drop_succ_cons, List.drop_zero, List.take_nil, List.drop_nil]
      refine wr_x (ox_move rfl rfl) rfl rfl ?_
      refine wr_x (ox_move rfl rfl) rfl rfl ?_
      refine wr_x (ox_move rfl rfl) rfl rfl ?_
      refine wr_x (ox_add rfl rfl rfl (by omega)) rfl rfl ?_
      first | refine wr_x (ox_index (first + r) rfl Try.underlying23 el3 rfl rfl (by omega) (by omega)) rfl rfl ?_ | refine wr_x (ox_indexR (first + r) (hO0.rd (.head _)) rfl Try.underlying23 el3 rfl rfl (by omega) (by omega)) rfl rfl ?_
      refine wr_x (ox_load rfl Try.underlying3 rfl rfl (by first | exact hO0.get (.head _) (by omega))) rfl rfl ?_
      refine wr_x (ox_move rfl rfl) rfl rfl ?_
      refine wr_x (ox_move rfl rfl) rfl rfl ?_
      refine wr_x (ox_move rfl rfl) rfl rfl ?_
      refine wr_x (ox_add rfl rfl rfl (by omega)) rfl rfl ?_
      first | refine wr_x (ox_index (first + (2 * r + 1)) rfl Try.underlying23 el3 rfl rfl (by omega) (by omega)) rfl rfl ?_ | refine wr_x (ox_indexR (first + (2 * r + 1)) (hO0.rd (.head _)) rfl Try.underlying23 el3 rfl rfl (by omega) (by omega)) rfl rfl ?_
      refine wr_x (ox_load rfl Try.underlying3 rfl rfl (by first | exact hO0.get (.head _) (by omega))) rfl rfl ?_
      refine wr_nil ?_
      refine wl_x (ox_call rfl Try.call59 rfl (less_ok _ _ _ _)) rfl rfl rfl ?_
      refine wl_x (ox_not rfl rfl) rfl rfl rfl ?_
      refine wl_nil ?_
      refine nx_then ?_
      refine ws_cond rfl (fun h3 => ?_) (fun h3 => ?_)
      · skip
        refine ws_ret ?_
        refine nx_then_ret ?_
        refine nx_block_ret ?_
        refine nx_then_ret ?_
        refine nx_block_ret ?_
        exact nx_ret0 rfl (⟨rfl, m0, rfl, by rw [← hR]; unfold siftDown; rw [dif_neg (by omega)]; rw [if_neg (by simp; intro h'; omega)]; rw [if_pos (by simpa using h3)]; exact hO0⟩)
      · skip
        refine ws_skip ?_
        refine nx_then ?_
        refine ws_seq ?_
        refine ws_drawP 20 [false, false, false, false, true, true, true, true] fol (by kernel_rfl) (by kernel_rfl) (by kernel_rfl) ?_
        refine pz_x rfl rfl rfl rfl (px_move rfl rfl) ?_
        refine pz_x rfl rfl rfl rfl (px_move rfl rfl) ?_
        refine pz_x rfl rfl rfl rfl (px_move rfl rfl) ?_
        refine pz_x rfl rfl rfl rfl (px_add rfl rfl rfl (by omega)) ?_
        refine ⟨rfl, ?_⟩
        simp only [zapL, zap, List.cons_append, List.nil_append, List.take_succ_cons, List.take_zero, List.drop_succ_cons, List.drop_zero, List.take_nil, List.drop_nil]
        refine wr_x (ox_move rfl rfl) rfl rfl ?_
        refine wr_x (ox_move rfl rfl) rfl rfl ?_
        refine wr_x (ox_move rfl rfl) rfl rfl ?_
        refine wr_x (ox_add rfl rfl rfl (by omega)) rfl rfl ?_
        refine wr_z rfl rfl rfl ?_
        refine wr_z rfl rfl rfl ?_
        refine wr_z rfl rfl rfl ?_
        refine wr_z rfl rfl rfl ?_
        refine wr_x (ox_move rfl rfl) rfl rfl ?_
        refine wr_x (ox_move rfl rfl) rfl rfl ?_
        refine wr_x (ox_move rfl rfl) rfl rfl ?_
        refine wr_x (ox_add rfl rfl rfl (by omega)) rfl rfl ?_
        first | refine wr_x (ox_index (first + (2 * r + 1)) rfl Try.underlying23 el3 rfl rfl (by omega) (by omega)) rfl rfl ?_ | refine wr_x (ox_indexR (first + (2 * r + 1)) (hO0.rd (.head _)) rfl Try.underlying23 el3 rfl rfl (by omega) (by omega)) rfl rfl ?_
        refine wr_x (ox_load rfl Try.underlying3 rfl rfl (by first | exact hO0.get (.head _) (by omega))) rfl rfl ?_
        refine wr_x (ox_move rfl rfl) rfl rfl ?_
        refine wr_x (ox_move rfl rfl) rfl rfl ?_
        refine wr_x (ox_move rfl rfl) rfl rfl ?_
        refine wr_x (ox_add rfl rfl rfl (by omega)) rfl rfl ?_
        first | refine wr_x (ox_index (first + r) rfl Try.underlying23 el3 rfl rfl (by omega) (by omega)) rfl rfl ?_ | refine wr_x (ox_indexR (first + r) (hO0.rd (.head _)) rfl Try.underlying23 el3 rfl rfl (by omega) (by omega)) rfl rfl ?_
        refine wr_x (ox_load rfl Try.underlying3 rfl rfl (by first | exact hO0.get (.head _) (by omega))) rfl rfl ?_
        refine wr_nil ?_
        first | refine wl_x (ox_index (first + r) rfl Try.underlying23 el3 rfl rfl (by omega) (by omega)) rfl rfl rfl ?_ | refine wl_x (ox_indexR (first + r) (hO0.rd (.head _)) rfl Try.underlying23 el3 rfl rfl (by omega) (by omega)) rfl rfl rfl ?_
        refine wl_storeI 0 _ hO0 rfl el3 rfl rfl rfl (by omega) rfl rfl (fun mhO1 hzhO1 hO1 => ?_)
        first | refine wl_x (ox_index (first + (2 * r + 1)) rfl Try.underlying23 el3 rfl rfl (by omega) (by omega)) rfl rfl rfl ?_ | refine wl_x (ox_indexR (first + (2 * r + 1)) (hO1.rd (.head _)) rfl Try.underlying23 el3 rfl rfl (by omega) (by omega)) rfl rfl rfl ?_
        refine wl_storeI 0 _ hO1 rfl el3 rfl rfl rfl (by omega) rfl rfl (fun mhO2 hzhO2 hO2 => ?_)
        refine wl_nil ?_
        refine nx_q0 ?_
        refine nx_then ?_
        refine ws_region ?_
        refine wl_x (ox_move rfl rfl) rfl rfl rfl ?_
        refine wl_x (ox_assign rfl rfl) rfl rfl rfl ?_
        refine wl_nil ?_
        refine nx_block ?_
        refine nx_round (hi - (2 * r + 1)) _ (by omega) ⟨2 * r + 1, 2 * y + 1, _, mhO2, rfl, rfl, rfl, rfl, by omega, by omega, hO2, by omega, ?_⟩ (by repeat (first | exact trivial | refine ⟨rfl, ?_⟩))
        rw [← hR]; conv => rhs; unfold siftDown
        rw [dif_neg (by omega)]
        rw [if_neg (by simp; intro h'; omega)]
        rw [if_neg (by simpa using h3)]
        first | rfl | (rw [show True = True from rfl]; rfl)

theorem swp_size' (d : Array Int) (i j : Nat) : (swp d i j).size = d.size := size_swp d i j
theorem siftDown_size (lt : Int → Int → Bool) (hi first : Nat) : ∀ (n root : Nat) (d : Array Int), hi - root ≤ n → (siftDown lt hi first root d).size = d.size := by
  intro n
  induction n with
  | zero => intro root d h; unfold siftDown; rw [dif_pos (by omega)]
  | succ n ih =>
    intro root d h
    unfold siftDown
    split
    · rfl
    · split
      · split
        · rfl
        · split
          · rw [ih _ _ (by omega), size_swp]
          · rfl
      · split
        · rfl
        · rw [ih _ _ (by omega), size_swp]
theorem siftDown_size' (lt : Int → Int → Bool) (hi first root : Nat) (d : Array Int) : (siftDown lt hi first root d).size = d.size := siftDown_size lt hi first _ root d (Nat.le_refl _)

theorem heapSort_ok (d : Array Int) (v : Value) (m : Hp) (hO : OI m v d) (a b : Nat) (hab : a < b) (hb : b ≤ d.size) (hsz : d.size ≤ 2305843009213693951) (h : Hp) {a' b' : Int} (ea : a' = a) (eb : b' = b) : FnT Try.prog 54 #[v, .int .i64 a', .int .i64 b'] h [m] (Left h v (heapSort ltInt d a b)) := by
  subst ea eb
  refine fn_enter Try.func54 Try.ntmps54 rfl rfl (fun w0 hw0 => ?_)
  simp only [argS]
  refine ws_seq ?_
  refine ws_region ?_
  refine wl_x (ox_move rfl rfl) rfl rfl rfl ?_
  refine wl_x (ox_assign rfl rfl) rfl rfl rfl ?_
  refine wl_nil ?_
  refine nx_then ?_
  refine ws_seq ?_
  refine ws_region ?_
  refine wl_x (ox_assign rfl rfl) rfl rfl rfl ?_
  refine wl_nil ?_
  refine nx_then ?_
  refine ws_seq ?_
  refine ws_region ?_
  refine wl_x (ox_move rfl rfl) rfl rfl rfl ?_
  refine wl_x (ox_move rfl rfl) rfl rfl rfl ?_
  refine wl_x (ox_sub rfl rfl rfl (by omega)) rfl rfl rfl ?_
  refine wl_x (ox_assign rfl rfl) rfl rfl rfl ?_
  refine wl_nil ?_
  refine nx_then ?_
  refine ws_seq ?_
  refine ws_seq ?_
  refine ws_region ?_
  refine wl_x (ox_move rfl rfl) rfl rfl rfl ?_
  refine wl_x (ox_sub rfl rfl rfl (by omega)) rfl rfl rfl ?_
  first | refine wl_x (ox_quoP rfl rfl rfl (by omega) (by omega)) rfl rfl rfl ?_ | refine wl_x (ox_quo rfl rfl rfl (by omega) (by omega)) rfl rfl rfl ?_
  refine wl_x (ox_assign rfl rfl) rfl rfl rfl ?_
  refine wl_nil ?_
  refine nx_then ?_
  refine ws_block ?_
  refine ws_loop (fun n s h' ms' => ∃ (y : Int) (d' : Array Int) (m : Hp), s = [(0, v), (6, .int .i64 a), (7, .int .i64 0), (8, .int .i64 ((b : Int) - a)), (9, .int .i64 y)] ∧ h = h' ∧ ms' = [m] ∧ y + 1 = n ∧ y < (b : Int) - a ∧ OI m v d' ∧ d'.size = d.size ∧ heapBuild ltInt (b - a) a n d' = heapBuild ltInt (b - a) a ((b - a - 1) / 2 + 1) d)
    ((b - a - 1) / 2 + 1) _ ⟨((b : Int) - a - 1) / 2, d, m, rfl, rfl, rfl, by omega, by omega, hO, rfl, rfl⟩ (by repeat (first | exact trivial | refine ⟨rfl, ?_⟩)) ?_
  rintro n s h' ms' ⟨y, d0, m0, rfl, rfl, rfl, hy, hya, hO0, hds, hR⟩
  refine ws_seq ?_
  refine ws_seq ?_
  refine ws_region ?_
  refine wl_x (ox_move rfl rfl) rfl rfl rfl ?_
  refine wl_x (ox_geq rfl rfl rfl) rfl rfl rfl ?_
  refine wl_nil ?_
  refine nx_then ?_
  refine ws_if rfl (fun hge => ?_) (fun hge => ?_)
  · skip
    obtain ⟨k, rfl⟩ : ∃ k, n = k + 1 := ⟨n - 1, by omega⟩
    refine ws_skip ?_
    refine nx_then ?_
    refine ws_seq ?_
    refine ws_block ?_
    refine ws_region ?_
    refine wl_x (ox_move rfl rfl) rfl rfl rfl ?_
    refine wl_x (ox_move rfl rfl) rfl rfl rfl ?_
    refine wl_x (ox_move rfl rfl) rfl rfl rfl ?_
    refine wl_x (ox_move rfl rfl) rfl rfl rfl ?_
    refine wl_call_ (pre := [m0]) rfl Try.call65 rfl (siftDown_ok d0 v m0 hO0 k (b - a) a (by omega) (by omega) (by omega) _ (by omega) (by omega) (by omega)) rfl rfl rfl rfl (fun _ _ _ _ hL => ?_)
    obtain ⟨rfl, m1, rfl, hO1⟩ := hL
    refine wl_nil ?_
    refine nx_block ?_
    refine nx_then ?_
    refine ws_region ?_
    refine wl_x (ox_move rfl rfl) rfl rfl rfl ?_
    refine wl_x (ox_sub rfl rfl rfl (by omega)) rfl rfl rfl ?_
    refine wl_x (ox_assign rfl rfl) rfl rfl rfl ?_
    refine wl_nil ?_
    refine nx_round k _ (by omega) ⟨y - 1, _, m1, rfl, rfl, rfl, by omega, by omega, hO1, by rw [siftDown_size']; exact hds, ?_⟩ (by repeat (first | exact trivial | refine ⟨rfl, ?_⟩))
    rw [← hR]; rfl
  · skip
    refine ws_exit ?_
    refine nx_then_exit ?_
    refine nx_then_exit ?_
    refine nx_block_exit ?_
    refine nx_then ?_
    refine ws_seq ?_
    refine ws_region ?_
    refine wl_x (ox_move rfl rfl) rfl rfl rfl ?_
    refine wl_x (ox_sub rfl rfl rfl (by omega)) rfl rfl rfl ?_
    refine wl_x (ox_assign rfl rfl) rfl rfl rfl ?_
    refine wl_nil ?_
    refine nx_then ?_
    refine ws_block ?_
    have hn : n = 0 := by omega
    subst hn
    have hR' : d0 = heapBuild ltInt (b - a) a ((b - a - 1) / 2 + 1) d := hR
    refine ws_loop (fun n s h' ms' => ∃ (y : Int) (d' : Array Int) (m : Hp), s = [(0, v), (6, .int .i64 a), (7, .int .i64 0), (10, .int .i64 y)] ∧ h = h' ∧ ms' = [m] ∧ y + 1 = n ∧ n ≤ b - a ∧ OI m v d' ∧ d'.size = d.size ∧ heapPop ltInt a n d' = heapSort ltInt d a b)
      (b - a) _ ⟨(b : Int) - a - 1, d0, m0, rfl, rfl, rfl, by omega, by omega, hO0, hds, by rw [hR']; rfl⟩ (by repeat (first | exact trivial | refine ⟨rfl, ?_⟩)) ?_
    rintro n s h' ms' ⟨x, d1, m1, rfl, rfl, rfl, hx, hna, hO1, hds1, hR1⟩
    refine ws_seq ?_
    refine ws_seq ?_
    refine ws_region ?_
    refine wl_x (ox_move rfl rfl) rfl rfl rfl ?_
    refine wl_x (ox_geq rfl rfl rfl) rfl rfl rfl ?_
    refine wl_nil ?_
    refine nx_then ?_
    refine ws_if rfl (fun hge2 => ?_) (fun hge2 => ?_)
    · skip
      obtain ⟨k, rfl⟩ : ∃ k, n = k + 1 := ⟨n - 1, by omega⟩
      refine ws_skip ?_
      refine nx_then ?_
      refine ws_seq ?_
      refine ws_block ?_
      refine ws_seq ?_
      refine ws_drawP 16 [false, false, true, true, true, true] fol (by kernel_rfl) (by kernel_rfl) (by kernel_rfl) ?_
      refine pz_x rfl rfl rfl rfl (px_move rfl rfl) ?_
      refine pz_x rfl rfl rfl rfl (px_move rfl rfl) ?_
      refine pz_x rfl rfl rfl rfl (px_move rfl rfl) ?_
      refine pz_x rfl rfl rfl rfl (px_add rfl rfl rfl (by omega)) ?_
      refine ⟨rfl, ?_⟩
      simp only [zapL, zap, List.cons_append, List.nil_append, List.take_succ_cons, List.take_zero, List.drop_succ_cons, List.drop_zero, List.take_nil, List.drop_nil]
      refine wr_x (ox_move rfl rfl) rfl rfl ?_
      refine wr_x (ox_move rfl rfl) rfl rfl ?_
      refine wr_z rfl rfl rfl ?_
      refine wr_z rfl rfl rfl ?_
      refine wr_z rfl rfl rfl ?_
      refine wr_z rfl rfl rfl ?_
      refine wr_x (ox_move rfl rfl) rfl rfl ?_
      refine wr_x (ox_move rfl rfl) rfl rfl ?_
      refine wr_x (ox_move rfl rfl) rfl rfl ?_
      refine wr_x (ox_add rfl rfl rfl (by omega)) rfl rfl ?_
      first | refine wr_x (ox_index (a + k) rfl Try.underlying23 el3 rfl rfl (by omega) (by omega)) rfl rfl ?_ | refine wr_x (ox_indexR (a + k) (hO1.rd (.head _)) rfl Try.underlying23 el3 rfl rfl (by omega) (by omega)) rfl rfl ?_
      refine wr_x (ox_load rfl Try.underlying3 rfl rfl (by first | exact hO1.get (.head _) (by omega))) rfl rfl ?_
      refine wr_x (ox_move rfl rfl) rfl rfl ?_
      refine wr_x (ox_move rfl rfl) rfl rfl ?_
      first | refine wr_x (ox_index a rfl Try.underlying23 el3 rfl rfl (by omega) (by omega)) rfl rfl ?_ | refine wr_x (ox_indexR a (hO1.rd (.head _)) rfl Try.underlying23 el3 rfl rfl (by omega) (by omega)) rfl rfl ?_
      refine wr_x (ox_load rfl Try.underlying3 rfl rfl (by first | exact hO1.get (.head _) (by omega))) rfl rfl ?_
      refine wr_nil ?_
      first | refine wl_x (ox_index a rfl Try.underlying23 el3 rfl rfl (by omega) (by omega)) rfl rfl rfl ?_ | refine wl_x (ox_indexR a (hO1.rd (.head _)) rfl Try.underlying23 el3 rfl rfl (by omega) (by omega)) rfl rfl rfl ?_
      refine wl_storeI 0 _ hO1 rfl el3 rfl rfl rfl (by omega) rfl rfl (fun mhO2 hzhO2 hO2 => ?_)
      first | refine wl_x (ox_index (a + k) rfl Try.underlying23 el3 rfl rfl (by omega) (by omega)) rfl rfl rfl ?_ | refine wl_x (ox_indexR (a + k) (hO2.rd (.head _)) rfl Try.underlying23 el3 rfl rfl (by omega) (by omega)) rfl rfl rfl ?_
      refine wl_storeI 0 _ hO2 rfl el3 rfl rfl rfl (by omega) rfl rfl (fun mhO3 hzhO3 hO3 => ?_)
      refine wl_nil ?_
      refine nx_q0 ?_
      refine nx_then ?_
      refine ws_region ?_
      refine wl_x (ox_move rfl rfl) rfl rfl rfl ?_
      refine wl_x (ox_move rfl rfl) rfl rfl rfl ?_
      refine wl_x (ox_move rfl rfl) rfl rfl rfl ?_
      refine wl_x (ox_move rfl rfl) rfl rfl rfl ?_
      refine wl_call_ (pre := [mhO3]) rfl Try.call65 rfl (siftDown_ok _ v _ hO3 0 k a (by omega) (by omega) (by omega) _ (by omega) (by omega) (by omega)) rfl rfl rfl rfl (fun _ _ _ _ hL => ?_)
      obtain ⟨rfl, m2, rfl, hO4⟩ := hL
      refine wl_nil ?_
      refine nx_block ?_
      refine nx_then ?_
      refine ws_region ?_
      refine wl_x (ox_move rfl rfl) rfl rfl rfl ?_
      refine wl_x (ox_sub rfl rfl rfl (by omega)) rfl rfl rfl ?_
      refine wl_x (ox_assign rfl rfl) rfl rfl rfl ?_
      refine wl_nil ?_
      refine nx_round k _ (by omega) ⟨x - 1, _, m2, rfl, rfl, rfl, by omega, by omega, hO4, by rw [siftDown_size']; omega, ?_⟩ (by repeat (first | exact trivial | refine ⟨rfl, ?_⟩))
      rw [← hR1]; rfl
    · skip
      refine ws_exit ?_
      refine nx_then_exit ?_
      refine nx_then_exit ?_
      refine nx_block_exit ?_
      have hn : n = 0 := by omega
      subst hn
      exact nx_end0 rfl (⟨rfl, m1, rfl, by rw [← hR1]; exact hO1⟩)
end Go.Proofs.Ythdkhnjnhhofgaa
