/- Walks: the library's sort at integers. -/
import Derived.Test.YthdkhnjnhhofgaaEl
import Derived.Test.YthdkhnjnhhofgaaEB
import Derived.Test.YthdkhnjnhhofgaaSh
import Derived.Sort.OwnSortedInts
import Derived.Lib.SlicesCompact
set_option linter.unusedSimpArgs false
set_option linter.unusedVariables false
set_option maxRecDepth 100000
namespace Go.Proofs.Ythdkhnjnhhofgaa
open Go.Eng Go.RowKit Go.Sort

theorem isNaN_ok (a : Int) (h : Hp) (ms : List Hp) : FnV Try.prog 70 #[.int .i64 a] h ms (.bool false) := by
  refine FnV.weaken (FnT.toV ?_) (Hp.emp_le h)
  refine fn_enter Try.func70 Try.ntmps70 rfl rfl (fun w0 hw0 => ?_)
  simp only [argS]
  refine ws_seq ?_
  refine ws_region ?_
  refine wl_x (ox_assign rfl rfl) rfl rfl rfl ?_
  refine wl_nil ?_
  refine nx_then ?_
  refine ws_seq ?_
  refine ws_region ?_
  refine wl_x (ox_move rfl rfl) rfl rfl rfl ?_
  refine wl_x (ox_move rfl rfl) rfl rfl rfl ?_
  refine wl_x (ox_nei rfl rfl rfl) rfl rfl rfl ?_
  refine wl_x (ox_assign rfl rfl) rfl rfl rfl ?_
  refine wl_nil ?_
  refine nx_then ?_
  refine ws_ret ?_
  exact nx_ret1 rfl rfl (by simp)
theorem less_ok (a b : Int) (h : Hp) (ms : List Hp) : FnV Try.prog 59 #[.int .i64 a, .int .i64 b] h ms (.bool (ltInt a b)) := by
  refine FnV.weaken (FnT.toV ?_) (Hp.emp_le h)
  refine fn_enter Try.func59 Try.ntmps59 rfl rfl (fun w0 hw0 => ?_)
  simp only [argS]
  refine ws_seq ?_
  refine ws_region ?_
  refine wl_x (ox_assign rfl rfl) rfl rfl rfl ?_
  refine wl_nil ?_
  refine nx_then ?_
  refine ws_seq ?_
  refine ws_region ?_
  refine wl_x (ox_move rfl rfl) rfl rfl rfl ?_
  refine wl_x (ox_call rfl Try.call70 rfl (isNaN_ok _ _ _)) rfl rfl rfl ?_
  refine wl_x (ox_move rfl rfl) rfl rfl rfl ?_
  refine wl_skip rfl rfl rfl rfl rfl rfl rfl ?_
  refine wl_skip rfl rfl rfl rfl rfl rfl rfl ?_
  refine wl_skip rfl rfl rfl rfl rfl rfl rfl ?_
  refine wl_x (ox_pick_f rfl rfl rfl) rfl rfl rfl ?_
  refine wl_x (ox_move rfl rfl) rfl rfl rfl ?_
  refine wl_gx (ox_move rfl rfl) rfl rfl rfl rfl rfl rfl ?_
  refine wl_gx (ox_move rfl rfl) rfl rfl rfl rfl rfl rfl ?_
  refine wl_gx (ox_lss rfl rfl rfl) rfl rfl rfl rfl rfl rfl ?_
  refine wl_x (ox_pick_f rfl rfl rfl) rfl rfl rfl ?_
  refine wl_x (ox_assign rfl rfl) rfl rfl rfl ?_
  refine wl_nil ?_
  refine nx_then ?_
  refine ws_ret ?_
  exact nx_ret1 rfl rfl (by first | rfl | simp [ltInt])

/-- The owned slice of integers. -/
abbrev OI (m : Hp) (v : Value) (d : Array Int) : Prop := OwnL cI 1 3 m v d.toList
theorem OI.get {m : Hp} {v : Value} {d : Array Int} {h : Hp} {ms : List Hp} (O : OI m v d) (hm : m ∈ ms) {j : Nat} (hj : j < d.size) : Cell h ms ((vbase v).add (j * 1)) (.int .i64 d[j]!) := (OwnL.rd O hm).getA (fun _ => rfl) hj
theorem OI.rd {m : Hp} {v : Value} {d : Array Int} {h : Hp} {ms : List Hp} (O : OI m v d) (hm : m ∈ ms) : Rd h ms v 1 d.size (d.toList.flatMap cI) := by
  have := (OwnL.rd O hm (h := h)).rd; rwa [Array.length_toList] at this

theorem wl_storeI {e : Entry} {Q : Exit → Act → World → Prop} {ops : Array Oper} {rest : List Oper} {o : Oper} {s : Slots} {h : Hp} {ms : List Hp} {v : Value} {m : Hp} {t : TypeId} {x y : Operand} {z : Value} {bytes : Nat} {a : Int} {d : Array Int} (i j : Nat) (O : OI m v d) (ho : o.op = .store t x y) (hs : Elem e.P t 1 z bytes) (hx : ev s x = some (.pointer (some ((vbase v).add (j * 1))))) (hy : ev s y = some (.int .i64 a))
    (hm : ms[i]? = some m) (hj : j < d.size) (hd : o.dst = none) (hg : o.guard = none)
    (K : ∀ m', (d.setIfInBounds j a).size = d.size → OI m' v (d.setIfInBounds j a) → WL e ops Q rest s h (ms.set i m')) : WL e ops Q (o :: rest) s h ms :=
  wl_storeA1 (F := cI) (f := fun x => .int .i64 x) i j (fun _ => rfl) O ho hs hx hy rfl hm hj hd hg fun m' => K m' (by simp)

/-- What a function that sorts in place leaves. -/
def Left (h : Hp) (v : Value) (d : Array Int) : Value → Hp → List Hp → Prop := fun _ h' ms' => h = h' ∧ ∃ m, ms' = [m] ∧ OI m v d

theorem insInner_size (lt : Int → Int → Bool) (a : Nat) : ∀ (j : Nat) (d : Array Int), (insInner lt a j d).size = d.size
  | 0, d => rfl
  | j + 1, d => by unfold insInner; split <;> simp [insInner_size lt a j, size_swp]

theorem insertionSort_ok (d : Array Int) (v : Value) (m : Hp) (hO : OI m v d) (a b : Nat) (hab : a ≤ b) (hb : b ≤ d.size) (hsz : d.size ≤ 2305843009213693951) (h : Hp) {a' b' : Int} (ea : a' = a) (eb : b' = b) : FnT Try.prog 53 #[v, .int .i64 a', .int .i64 b'] h [m] (Left h v (insertionSort ltInt d a b)) := by
  subst ea eb
  refine fn_enter Try.func53 Try.ntmps53 rfl rfl (fun w0 hw0 => ?_)
  simp only [argS]
  refine ws_seq ?_
  refine ws_region ?_
  refine wl_x (ox_move rfl rfl) rfl rfl rfl ?_
  refine wl_x (ox_add rfl rfl rfl (by omega)) rfl rfl rfl ?_
  refine wl_x (ox_assign rfl rfl) rfl rfl rfl ?_
  refine wl_nil ?_
  refine nx_then ?_
  refine ws_block ?_
  refine ws_loop (fun n s h' ms' => ∃ (i : Nat) (z : Int) (d' : Array Int) (m : Hp), n = b - i ∧ s = [(0, v), (1, .int .i64 a), (2, .int .i64 b), (6, .int .i64 z)] ∧ h = h' ∧ ms' = [m] ∧ z = i ∧ a < i ∧ i ≤ 4611686018427387905 ∧ OI m v d' ∧ d'.size = d.size ∧ insOuter ltInt a b i d' = insertionSort ltInt d a b)
    _ _ ⟨a + 1, (a : Int) + 1, d, m, rfl, rfl, rfl, rfl, by omega, by omega, by omega, hO, rfl, rfl⟩ (by repeat (first | exact trivial | refine ⟨rfl, ?_⟩)) ?_
  rintro n s h' ms' ⟨i, z, d', m, rfl, rfl, rfl, rfl, hz, hai, hi, hO, hds, hR⟩
  refine ws_seq ?_
  refine ws_seq ?_
  refine ws_region ?_
  refine wl_x (ox_move rfl rfl) rfl rfl rfl ?_
  refine wl_x (ox_move rfl rfl) rfl rfl rfl ?_
  refine wl_x (ox_lss rfl rfl rfl) rfl rfl rfl ?_
  refine wl_nil ?_
  refine nx_then ?_
  refine ws_if rfl (fun hlt => ?_) (fun hlt => ?_)
  · skip
    refine ws_skip ?_
    refine nx_then ?_
    refine ws_seq ?_
    refine ws_block ?_
    refine ws_seq ?_
    refine ws_region ?_
    refine wl_x (ox_move rfl rfl) rfl rfl rfl ?_
    refine wl_x (ox_assign rfl rfl) rfl rfl rfl ?_
    refine wl_nil ?_
    refine nx_then ?_
    refine ws_block ?_
    refine ws_loop (fun n s h' ms' => ∃ (j : Nat) (y : Int) (d' : Array Int) (m : Hp), j = n ∧ s = [(0, v), (1, .int .i64 a), (2, .int .i64 b), (6, .int .i64 z), (7, .int .i64 y)] ∧ h = h' ∧ ms' = [m] ∧ y = j ∧ j ≤ i ∧ OI m v d' ∧ d'.size = d.size ∧ insOuter ltInt a b (i + 1) (insInner ltInt a j d') = insertionSort ltInt d a b)
      _ _ ⟨i, z, d', m, rfl, rfl, rfl, rfl, hz, by omega, hO, hds, by rw [← hR]; conv => rhs; unfold insOuter; rw [if_pos (by omega)]⟩ (by repeat (first | exact trivial | refine ⟨rfl, ?_⟩)) ?_
    rintro n s h' ms' ⟨j, y, d1, m1, rfl, rfl, rfl, rfl, hy, hji, hO1, hds1, hR1⟩
    refine ws_seq ?_
    refine ws_seq ?_
    refine ws_draw 13 fol (by kernel_rfl) rfl ?_
    simp only [List.take_succ_cons, List.take_zero, List.drop_succ_cons, List.drop_zero, List.take_nil, List.drop_nil]
    refine wr_x (ox_move rfl rfl) rfl rfl ?_
    refine wr_x (ox_move rfl rfl) rfl rfl ?_
    refine wr_x (ox_gtr rfl rfl rfl) rfl rfl ?_
    refine wr_x (ox_move rfl rfl) rfl rfl ?_
    refine wr_split (t := 19) rfl (fun hja => ?_) (fun hja => ?_)
    · skip
      refine wr_gx (ox_move rfl rfl) rfl rfl rfl rfl ?_
      refine wr_gx (ox_move rfl rfl) rfl rfl rfl rfl ?_
      first | refine wr_gx (ox_index (j) rfl Try.underlying23 el3 rfl rfl (by omega) (by omega)) rfl rfl rfl rfl ?_ | refine wr_gx (ox_indexR (j) (hO1.rd (.head _)) rfl Try.underlying23 el3 rfl rfl (by omega) (by omega)) rfl rfl rfl rfl ?_
      refine wr_gx (ox_load rfl Try.underlying3 rfl rfl (by first | exact hO1.get (.head _) (by omega))) rfl rfl rfl rfl ?_
      refine wr_gx (ox_move rfl rfl) rfl rfl rfl rfl ?_
      refine wr_gx (ox_move rfl rfl) rfl rfl rfl rfl ?_
      refine wr_gx (ox_sub rfl rfl rfl (by omega)) rfl rfl rfl rfl ?_
      first | refine wr_gx (ox_index (j - 1) rfl Try.underlying23 el3 rfl rfl (by omega) (by omega)) rfl rfl rfl rfl ?_ | refine wr_gx (ox_indexR (j - 1) (hO1.rd (.head _)) rfl Try.underlying23 el3 rfl rfl (by omega) (by omega)) rfl rfl rfl rfl ?_
      refine wr_gx (ox_load rfl Try.underlying3 rfl rfl (by first | exact hO1.get (.head _) (by omega))) rfl rfl rfl rfl ?_
      refine wr_nil ?_
      refine wl_gx (ox_call rfl Try.call59 rfl (less_ok _ _ _ _)) rfl rfl rfl rfl rfl rfl ?_
      refine wl_x (ox_pick_t rfl rfl rfl) rfl rfl rfl ?_
      refine wl_nil ?_
      refine nx_then ?_
      refine ws_cond rfl (fun hl => ?_) (fun hl => ?_)
      · skip
        refine ws_skip ?_
        refine nx_then ?_
        refine ws_seq ?_
        refine ws_block ?_
        refine ws_drawP 14 [false, false, true, true, true] fol (by kernel_rfl) (by kernel_rfl) (by kernel_rfl) ?_
        refine pz_x rfl rfl rfl rfl (px_move rfl rfl) ?_
        refine pz_x rfl rfl rfl rfl (px_move rfl rfl) ?_
        refine pz_x rfl rfl rfl rfl (px_sub rfl rfl rfl (by omega)) ?_
        refine ⟨rfl, ?_⟩
        simp only [zapL, zap, List.cons_append, List.nil_append, List.take_succ_cons, List.take_zero, List.drop_succ_cons, List.drop_zero, List.take_nil, List.drop_nil]
        refine wr_x (ox_move rfl rfl) rfl rfl ?_
        refine wr_x (ox_move rfl rfl) rfl rfl ?_
        refine wr_z rfl rfl rfl ?_
        refine wr_z rfl rfl rfl ?_
        refine wr_z rfl rfl rfl ?_
        refine wr_x (ox_move rfl rfl) rfl rfl ?_
        refine wr_x (ox_move rfl rfl) rfl rfl ?_
        refine wr_x (ox_sub rfl rfl rfl (by omega)) rfl rfl ?_
        first | refine wr_x (ox_index (j - 1) rfl Try.underlying23 el3 rfl rfl (by omega) (by omega)) rfl rfl ?_ | refine wr_x (ox_indexR (j - 1) (hO1.rd (.head _)) rfl Try.underlying23 el3 rfl rfl (by omega) (by omega)) rfl rfl ?_
        refine wr_x (ox_load rfl Try.underlying3 rfl rfl (by first | exact hO1.get (.head _) (by omega))) rfl rfl ?_
        refine wr_x (ox_move rfl rfl) rfl rfl ?_
        refine wr_x (ox_move rfl rfl) rfl rfl ?_
        first | refine wr_x (ox_index (j) rfl Try.underlying23 el3 rfl rfl (by omega) (by omega)) rfl rfl ?_ | refine wr_x (ox_indexR (j) (hO1.rd (.head _)) rfl Try.underlying23 el3 rfl rfl (by omega) (by omega)) rfl rfl ?_
        refine wr_x (ox_load rfl Try.underlying3 rfl rfl (by first | exact hO1.get (.head _) (by omega))) rfl rfl ?_
        refine wr_nil ?_
        first | refine wl_x (ox_index (j) rfl Try.underlying23 el3 rfl rfl (by omega) (by omega)) rfl rfl rfl ?_ | refine wl_x (ox_indexR (j) (hO1.rd (.head _)) rfl Try.underlying23 el3 rfl rfl (by omega) (by omega)) rfl rfl rfl ?_
        refine wl_storeI 0 _ hO1 rfl el3 rfl rfl rfl (by omega) rfl rfl (fun mhO2 hzhO2 hO2 => ?_)
        first | refine wl_x (ox_index (j - 1) rfl Try.underlying23 el3 rfl rfl (by omega) (by omega)) rfl rfl rfl ?_ | refine wl_x (ox_indexR (j - 1) (hO2.rd (.head _)) rfl Try.underlying23 el3 rfl rfl (by omega) (by omega)) rfl rfl rfl ?_
        refine wl_storeI 0 _ hO2 rfl el3 rfl rfl rfl (by omega) rfl rfl (fun mhO3 hzhO3 hO3 => ?_)
        refine wl_nil ?_
        refine nx_q0 ?_
        refine nx_block ?_
        refine nx_then ?_
        refine ws_region ?_
        refine wl_x (ox_move rfl rfl) rfl rfl rfl ?_
        refine wl_x (ox_sub rfl rfl rfl (by omega)) rfl rfl rfl ?_
        refine wl_x (ox_assign rfl rfl) rfl rfl rfl ?_
        refine wl_nil ?_
        obtain ⟨j', rfl⟩ : ∃ j', j = j' + 1 := ⟨j - 1, by omega⟩
        refine nx_round j' _ (by omega) ⟨j', y - 1, _, mhO3, rfl, rfl, rfl, rfl, by omega, by omega, hO3, by simp [hds1], ?_⟩ (by repeat (first | exact trivial | refine ⟨rfl, ?_⟩))
        rw [← hR1]
        conv => rhs; unfold insInner
        rw [if_pos (by simp; exact ⟨by omega, by simpa using hl⟩)]
        rfl
      · skip
        refine ws_exit ?_
        refine nx_then_exit ?_
        refine nx_then_exit ?_
        refine nx_block_exit ?_
        refine nx_block ?_
        refine nx_then ?_
        refine ws_region ?_
        refine wl_x (ox_move rfl rfl) rfl rfl rfl ?_
        refine wl_x (ox_add rfl rfl rfl (by omega)) rfl rfl rfl ?_
        refine wl_x (ox_assign rfl rfl) rfl rfl rfl ?_
        refine wl_nil ?_
        refine nx_round (b - (i + 1)) _ (by omega) ⟨i + 1, z + 1, d1, m1, rfl, rfl, rfl, rfl, by omega, by omega, by omega, hO1, hds1, ?_⟩ (by repeat (first | exact trivial | refine ⟨rfl, ?_⟩))
        rw [← hR1]
        obtain ⟨j', rfl⟩ : ∃ j', j = j' + 1 := ⟨j - 1, by omega⟩
        conv => rhs; unfold insInner
        rw [if_neg (by simp; intro _; simpa using hl)]
    · skip
      refine wr_skip rfl rfl rfl rfl rfl ?_
      refine wr_skip rfl rfl rfl rfl rfl ?_
      refine wr_skip rfl rfl rfl rfl rfl ?_
      refine wr_skip rfl rfl rfl rfl rfl ?_
      refine wr_skip rfl rfl rfl rfl rfl ?_
      refine wr_skip rfl rfl rfl rfl rfl ?_
      refine wr_skip rfl rfl rfl rfl rfl ?_
      refine wr_skip rfl rfl rfl rfl rfl ?_
      refine wr_skip rfl rfl rfl rfl rfl ?_
      refine wr_nil ?_
      refine wl_skip rfl rfl rfl rfl rfl rfl rfl ?_
      refine wl_x (ox_pick_f rfl rfl rfl) rfl rfl rfl ?_
      refine wl_nil ?_
      refine nx_then ?_
      refine ws_cond_f rfl ?_
      refine ws_exit ?_
      refine nx_then_exit ?_
      refine nx_then_exit ?_
      refine nx_block_exit ?_
      refine nx_block ?_
      refine nx_then ?_
      refine ws_region ?_
      refine wl_x (ox_move rfl rfl) rfl rfl rfl ?_
      refine wl_x (ox_add rfl rfl rfl (by omega)) rfl rfl rfl ?_
      refine wl_x (ox_assign rfl rfl) rfl rfl rfl ?_
      refine wl_nil ?_
      refine nx_round (b - (i + 1)) _ (by omega) ⟨i + 1, z + 1, d1, m1, rfl, rfl, rfl, rfl, by omega, by omega, by omega, hO1, hds1, ?_⟩ (by repeat (first | exact trivial | refine ⟨rfl, ?_⟩))
      rw [← hR1]
      cases j with
      | zero => rfl
      | succ j' =>
        conv => rhs; unfold insInner
        rw [if_neg (by simp; intro h'; omega)]
  · skip
    refine ws_exit ?_
    refine nx_then_exit ?_
    refine nx_then_exit ?_
    refine nx_block_exit ?_
    exact nx_end0 rfl (⟨rfl, m, rfl, by rw [← hR]; unfold insOuter; rw [if_neg (by omega)]; exact hO⟩)

theorem reverseRange_ok (d : Array Int) (v : Value) (m : Hp) (hO : OI m v d) (a b : Nat) (hab : a < b) (hb : b ≤ d.size) (hsz : d.size ≤ 2305843009213693951) (h : Hp) {a' b' : Int} (ea : a' = a) (eb : b' = b) : FnT Try.prog 57 #[v, .int .i64 a', .int .i64 b'] h [m] (Left h v (reverseRange d a b)) := by
  subst ea eb
  refine fn_enter Try.func57 Try.ntmps57 rfl rfl (fun w0 hw0 => ?_)
  simp only [argS]
  refine ws_seq ?_
  refine ws_region ?_
  refine wl_x (ox_move rfl rfl) rfl rfl rfl ?_
  refine wl_x (ox_assign rfl rfl) rfl rfl rfl ?_
  refine wl_nil ?_
  refine nx_then ?_
  refine ws_seq ?_
  refine ws_region ?_
  refine wl_x (ox_move rfl rfl) rfl rfl rfl ?_
  refine wl_x (ox_sub rfl rfl rfl (by omega)) rfl rfl rfl ?_
  refine wl_x (ox_assign rfl rfl) rfl rfl rfl ?_
  refine wl_nil ?_
  refine nx_then ?_
  refine ws_block ?_
  refine ws_loop (fun n s h' ms' => ∃ (i j : Nat) (y z : Int) (d' : Array Int) (m : Hp), n = j - i ∧ s = [(0, v), (6, .int .i64 y), (7, .int .i64 z)] ∧ h = h' ∧ ms' = [m] ∧ y = i ∧ z = j ∧ j < b ∧ i ≤ b ∧ OI m v d' ∧ d'.size = d.size ∧ reverseLoop i j d' = reverseRange d a b)
    _ _ ⟨a, b - 1, (a : Int), (b : Int) - 1, d, m, rfl, rfl, rfl, rfl, by omega, by omega, by omega, by omega, hO, rfl, rfl⟩ (by repeat (first | exact trivial | refine ⟨rfl, ?_⟩)) ?_
  rintro n s h' ms' ⟨i, j, y, z, d0, m0, rfl, rfl, rfl, rfl, hy, hz, hjb, hib, hO0, hds, hR⟩
  refine ws_seq ?_
  refine ws_seq ?_
  refine ws_region ?_
  refine wl_x (ox_move rfl rfl) rfl rfl rfl ?_
  refine wl_x (ox_move rfl rfl) rfl rfl rfl ?_
  refine wl_x (ox_lss rfl rfl rfl) rfl rfl rfl ?_
  refine wl_nil ?_
  refine nx_then ?_
  refine ws_if rfl (fun hlt => ?_) (fun hlt => ?_)
  · skip
    refine ws_skip ?_
    refine nx_then ?_
    refine ws_block ?_
    refine ws_seq ?_
    refine ws_drawP 12 [false, false, true, true] fol (by kernel_rfl) (by kernel_rfl) (by kernel_rfl) ?_
    refine pz_x rfl rfl rfl rfl (px_move rfl rfl) ?_
    refine pz_x rfl rfl rfl rfl (px_move rfl rfl) ?_
    refine ⟨rfl, ?_⟩
    simp only [zapL, zap, List.cons_append, List.nil_append, List.take_succ_cons, List.take_zero, List.drop_succ_cons, List.drop_zero, List.take_nil, List.drop_nil]
    refine wr_x (ox_move rfl rfl) rfl rfl ?_
    refine wr_x (ox_move rfl rfl) rfl rfl ?_
    refine wr_z rfl rfl rfl ?_
    refine wr_z rfl rfl rfl ?_
    refine wr_x (ox_move rfl rfl) rfl rfl ?_
    refine wr_x (ox_move rfl rfl) rfl rfl ?_
    first | refine wr_x (ox_index j rfl Try.underlying23 el3 rfl rfl (by omega) (by omega)) rfl rfl ?_ | refine wr_x (ox_indexR j (hO0.rd (.head _)) rfl Try.underlying23 el3 rfl rfl (by omega) (by omega)) rfl rfl ?_
    refine wr_x (ox_load rfl Try.underlying3 rfl rfl (by first | exact hO0.get (.head _) (by omega))) rfl rfl ?_
    refine wr_x (ox_move rfl rfl) rfl rfl ?_
    refine wr_x (ox_move rfl rfl) rfl rfl ?_
    first | refine wr_x (ox_index i rfl Try.underlying23 el3 rfl rfl (by omega) (by omega)) rfl rfl ?_ | refine wr_x (ox_indexR i (hO0.rd (.head _)) rfl Try.underlying23 el3 rfl rfl (by omega) (by omega)) rfl rfl ?_
    refine wr_x (ox_load rfl Try.underlying3 rfl rfl (by first | exact hO0.get (.head _) (by omega))) rfl rfl ?_
    refine wr_nil ?_
    first | refine wl_x (ox_index i rfl Try.underlying23 el3 rfl rfl (by omega) (by omega)) rfl rfl rfl ?_ | refine wl_x (ox_indexR i (hO0.rd (.head _)) rfl Try.underlying23 el3 rfl rfl (by omega) (by omega)) rfl rfl rfl ?_
    refine wl_storeI 0 _ hO0 rfl el3 rfl rfl rfl (by omega) rfl rfl (fun mhO1 hzhO1 hO1 => ?_)
    first | refine wl_x (ox_index j rfl Try.underlying23 el3 rfl rfl (by omega) (by omega)) rfl rfl rfl ?_ | refine wl_x (ox_indexR j (hO1.rd (.head _)) rfl Try.underlying23 el3 rfl rfl (by omega) (by omega)) rfl rfl rfl ?_
    refine wl_storeI 0 _ hO1 rfl el3 rfl rfl rfl (by omega) rfl rfl (fun mhO2 hzhO2 hO2 => ?_)
    refine wl_nil ?_
    refine nx_q0 ?_
    refine nx_then ?_
    refine ws_seq ?_
    refine ws_region ?_
    refine wl_x (ox_move rfl rfl) rfl rfl rfl ?_
    refine wl_x (ox_add rfl rfl rfl (by omega)) rfl rfl rfl ?_
    refine wl_x (ox_assign rfl rfl) rfl rfl rfl ?_
    refine wl_nil ?_
    refine nx_then ?_
    refine ws_region ?_
    refine wl_x (ox_move rfl rfl) rfl rfl rfl ?_
    refine wl_x (ox_sub rfl rfl rfl (by omega)) rfl rfl rfl ?_
    refine wl_x (ox_assign rfl rfl) rfl rfl rfl ?_
    refine wl_nil ?_
    refine nx_block ?_
    refine nx_round ((j - 1) - (i + 1)) _ (by omega) ⟨i + 1, j - 1, y + 1, z - 1, _, mhO2, rfl, rfl, rfl, rfl, by omega, by omega, by omega, by omega, hO2, by omega, ?_⟩ (by repeat (first | exact trivial | refine ⟨rfl, ?_⟩))
    rw [← hR]; conv => rhs; unfold reverseLoop
    rw [if_pos (by omega)]; rfl
  · skip
    refine ws_exit ?_
    refine nx_then_exit ?_
    refine nx_then_exit ?_
    refine nx_block_exit ?_
    exact nx_end0 rfl (⟨rfl, m0, rfl, by rw [← hR]; unfold reverseLoop; rw [if_neg (by omega)]; exact hO0⟩)

theorem siftDown_ok (d : Array Int) (v : Value) (m : Hp) (hO : OI m v d) (lo hi first : Nat) (hb : first + hi ≤ d.size) (hlo : lo ≤ hi) (hsz : d.size ≤ 2305843009213693951) (h : Hp) {a' b' c' : Int} (ea : a' = lo) (eb : b' = hi) (ec : c' = first) : FnT Try.prog 65 #[v, .int .i64 a', .int .i64 b', .int .i64 c'] h [m] (Left h v (siftDown ltInt hi first lo d)) := by
  subst ea eb ec
  refine fn_enter Try.func65 Try.ntmps65 rfl rfl (fun w0 hw0 => ?_)
  simp only [argS]
  refine ws_seq ?_
  refine ws_region ?_
  refine wl_x (ox_move rfl rfl) rfl rfl rfl ?_
  refine wl_x (ox_assign rfl rfl) rfl rfl rfl ?_
  refine wl_nil ?_
  refine nx_then ?_
  refine ws_block ?_
  refine ws_loop (fun n s h' ms' => ∃ (r : Nat) (y : Int) (d' : Array Int) (m : Hp), n = hi - r ∧ s = [(0, v), (2, .int .i64 hi), (3, .int .i64 first), (8, .int .i64 y)] ∧ h = h' ∧ ms' = [m] ∧ y = r ∧ r ≤ hi ∧ OI m v d' ∧ d'.size = d.size ∧ siftDown ltInt hi first r d' = siftDown ltInt hi first lo d)
    _ _ ⟨lo, (lo : Int), d, m, rfl, rfl, rfl, rfl, by omega, by omega, hO, rfl, rfl⟩ (by repeat (first | exact trivial | refine ⟨rfl, ?_⟩)) ?_
  rintro n s h' ms' ⟨r, y, d0, m0, rfl, rfl, rfl, rfl, hy, hr, hO0, hds, hR⟩
  refine ws_block ?_
  refine ws_seq ?_
  refine ws_region ?_
  refine wl_x (ox_move rfl rfl) rfl rfl rfl ?_
  refine wl_x (ox_mul rfl rfl rfl (by omega)) rfl rfl rfl ?_
  refine wl_x (ox_add rfl rfl rfl (by omega)) rfl rfl rfl ?_
  refine wl_x (ox_assign rfl rfl) rfl rfl rfl ?_
  refine wl_nil ?_
  refine nx_then ?_
  refine ws_seq ?_
  refine ws_seq ?_
  refine ws_region ?_
  refine wl_x (ox_move rfl rfl) rfl rfl rfl ?_
  refine wl_x (ox_move rfl rfl) rfl rfl rfl ?_
  refine wl_x (ox_geq rfl rfl rfl) rfl rfl rfl ?_
  refine wl_nil ?_
  refine nx_then ?_
  refine ws_if rfl (fun hge => ?_) (fun hge => ?_)
  · skip
    refine ws_exit ?_
    refine nx_then_exit ?_
    refine nx_block_out rfl ?_
    refine nx_then_exit ?_
    refine nx_block_exit ?_
    exact nx_end0 rfl (⟨rfl, m0, rfl, by rw [← hR]; unfold siftDown; rw [dif_pos (by omega)]; exact hO0⟩)
  · skip
    refine ws_skip ?_
    refine nx_then ?_
    refine ws_seq ?_
    refine ws_seq ?_
    refine ws_draw 18 fol (by kernel_rfl) rfl ?_
    simp only [List.take_succ_cons, List.take_zero, List.drop_succ_cons, List.drop_zero, List.take_nil, List.drop_nil]
    refine wr_x (ox_move rfl rfl) rfl rfl ?_
    refine wr_x (ox_add rfl rfl rfl (by omega)) rfl rfl ?_
    refine wr_x (ox_move rfl rfl) rfl rfl ?_
    refine wr_x (ox_lss rfl rfl rfl) rfl rfl ?_
    refine wr_x (ox_move rfl rfl) rfl rfl ?_
    refine wr_split (t := 21) rfl (fun h1 => ?_) (fun h1 => ?_)
    · skip
      refine wr_gx (ox_move rfl rfl) rfl rfl rfl rfl ?_
      refine wr_gx (ox_move rfl rfl) rfl rfl rfl rfl ?_
      refine wr_gx (ox_move rfl rfl) rfl rfl rfl rfl ?_
      refine wr_gx (ox_add rfl rfl rfl (by omega)) rfl rfl rfl rfl ?_
      first | refine wr_gx (ox_index (first + ((2 * r) + 1)) rfl Try.underlying23 el3 rfl rfl (by omega) (by omega)) rfl rfl rfl rfl ?_ | refine wr_gx (ox_indexR (first + ((2 * r) + 1)) (hO0.rd (.head _)) rfl Try.underlying23 el3 rfl rfl (by omega) (by omega)) rfl rfl rfl rfl ?_
      refine wr_gx (ox_load rfl Try.underlying3 rfl rfl (by first | exact hO0.get (.head _) (by omega))) rfl rfl rfl rfl ?_
      refine wr_gx (ox_move rfl rfl) rfl rfl rfl rfl ?_
      refine wr_gx (ox_move rfl rfl) rfl rfl rfl rfl ?_
      refine wr_gx (ox_move rfl rfl) rfl rfl rfl rfl ?_
      refine wr_gx (ox_add rfl rfl rfl (by omega)) rfl rfl rfl rfl ?_
      refine wr_gx (ox_add rfl rfl rfl (by omega)) rfl rfl rfl rfl ?_
      first | refine wr_gx (ox_index ((first + ((2 * r) + 1)) + 1) rfl Try.underlying23 el3 rfl rfl (by omega) (by omega)) rfl rfl rfl rfl ?_ | refine wr_gx (ox_indexR ((first + ((2 * r) + 1)) + 1) (hO0.rd (.head _)) rfl Try.underlying23 el3 rfl rfl (by omega) (by omega)) rfl rfl rfl rfl ?_
      refine wr_gx (ox_load rfl Try.underlying3 rfl rfl (by first | exact hO0.get (.head _) (by omega))) rfl rfl rfl rfl ?_
      refine wr_nil ?_
      refine wl_gx (ox_call rfl Try.call59 rfl (less_ok _ _ _ _)) rfl rfl rfl rfl rfl rfl ?_
      refine wl_x (ox_pick_t rfl rfl rfl) rfl rfl rfl ?_
      refine wl_nil ?_
      refine nx_then ?_
      refine ws_cond rfl (fun h2 => ?_) (fun h2 => ?_)
      · skip
        refine ws_region ?_
        refine wl_x (ox_move rfl rfl) rfl rfl rfl ?_
        refine wl_x (ox_add rfl rfl rfl (by omega)) rfl rfl rfl ?_
        refine wl_x (ox_assign rfl rfl) rfl rfl rfl ?_
        refine wl_nil ?_
        refine nx_then ?_
        refine ws_seq ?_
        refine ws_seq ?_
        refine ws_draw 12 fol (by kernel_rfl) rfl ?_
        simp only [List.take_succ_cons, List.take_zero, List.drop_succ_cons, List.drop_zero, List.take_nil, List.drop_nil]
        refine wr_x (ox_move rfl rfl) rfl rfl ?_
        refine wr_x (ox_move rfl rfl) rfl rfl ?_
        refine wr_x (ox_move rfl rfl) rfl rfl ?_
        refine wr_x (ox_add rfl rfl rfl (by omega)) rfl rfl ?_
        first | refine wr_x (ox_index (first + r) rfl Try.underlying23 el3 rfl rfl (by omega) (by omega)) rfl rfl ?_ | refine wr_x (ox_indexR (first + r) (hO0.rd (.head _)) rfl Try.underlying23 el3 rfl rfl (by omega) (by omega)) rfl rfl ?_
        refine wr_x (ox_load rfl Try.underlying3 rfl rfl (by first | exact hO0.get (.head _) (by omega))) rfl rfl ?_
        refine wr_x (ox_move rfl rfl) rfl rfl ?_
        refine wr_x (ox_move rfl rfl) rfl rfl ?_
        refine wr_x (ox_move rfl rfl) rfl rfl ?_
        refine wr_x (ox_add rfl rfl rfl (by omega)) rfl rfl ?_
        first | refine wr_x (ox_index (first + (2 * r + 2)) rfl Try.underlying23 el3 rfl rfl (by omega) (by omega)) rfl rfl ?_ | refine wr_x (ox_indexR (first + (2 * r + 2)) (hO0.rd (.head _)) rfl Try.underlying23 el3 rfl rfl (by omega) (by omega)) rfl rfl ?_
        refine wr_x (ox_load rfl Try.underlying3 rfl rfl (by first | exact hO0.get (.head _) (by omega))) rfl rfl ?_
        refine wr_nil ?_
        refine wl_x (ox_call rfl Try.call59 rfl (less_ok _ _ _ _)) rfl rfl rfl ?_
        refine wl_x (ox_not rfl rfl) rfl rfl rfl ?_
        refine wl_nil ?_
        refine nx_then ?_
        refine ws_cond rfl (fun h3 => ?_) (fun h3 => ?_)
        · skip
          refine ws_ret ?_
          refine nx_then_ret ?_
          refine nx_block_ret ?_
          refine nx_then_ret ?_
          refine nx_block_ret ?_
          exact nx_ret0 rfl (⟨rfl, m0, rfl, by rw [← hR]; unfold siftDown; rw [dif_neg (by omega)]; rw [if_pos (by simp; exact ⟨by omega, by simpa [Nat.add_assoc] using h2⟩)]; rw [if_pos (by simpa using h3)]; exact hO0⟩)
        · skip
          refine ws_skip ?_
          refine nx_then ?_
          refine ws_seq ?_
          refine ws_drawP 20 [false, false, false, false, true, true, true, true] fol (by kernel_rfl) (by kernel_rfl) (by kernel_rfl) ?_
          refine pz_x rfl rfl rfl rfl (px_move rfl rfl) ?_
          refine pz_x rfl rfl rfl rfl (px_move rfl rfl) ?_
          refine pz_x rfl rfl rfl rfl (px_move rfl rfl) ?_
          refine pz_x rfl rfl rfl rfl (px_add rfl rfl rfl (by omega)) ?_
          refine ⟨rfl, ?_⟩
          simp only [zapL, zap, List.cons_append, List.nil_append, List.take_succ_cons, List.take_zero, List.drop_succ_cons, List.drop_zero, List.take_nil, List.drop_nil]
          refine wr_x (ox_move rfl rfl) rfl rfl ?_
          refine wr_x (ox_move rfl rfl) rfl rfl ?_
          refine wr_x (ox_move rfl rfl) rfl rfl ?_
          refine wr_x (ox_add rfl rfl rfl (by omega)) rfl rfl ?_
          refine wr_z rfl rfl rfl ?_
          refine wr_z rfl rfl rfl ?_
          refine wr_z rfl rfl rfl ?_
          refine wr_z rfl rfl rfl ?_
          refine wr_x (ox_move rfl rfl) rfl rfl ?_
          refine wr_x (ox_move rfl rfl) rfl rfl ?_
          refine wr_x (ox_move rfl rfl) rfl rfl ?_
          refine wr_x (ox_add rfl rfl rfl (by omega)) rfl rfl ?_
          first | refine wr_x (ox_index (first + (2 * r + 2)) rfl Try.underlying23 el3 rfl rfl (by omega) (by omega)) rfl rfl ?_ | refine wr_x (ox_indexR (first + (2 * r + 2)) (hO0.rd (.head _)) rfl Try.underlying23 el3 rfl rfl (by omega) (by omega)) rfl rfl ?_
          refine wr_x (ox_load rfl Try.underlying3 rfl rfl (by first | exact hO0.get (.head _) (by omega))) rfl rfl ?_
          refine wr_x (ox_move rfl rfl) rfl rfl ?_
          refine wr_x (ox_move rfl rfl) rfl rfl ?_
          refine wr_x (ox_move rfl rfl) rfl rfl ?_
          refine wr_x (ox_add rfl rfl rfl (by omega)) rfl rfl ?_
          first | refine wr_x (ox_index (first + r) rfl Try.underlying23 el3 rfl rfl (by omega) (by omega)) rfl rfl ?_ | refine wr_x (ox_indexR (first + r) (hO0.rd (.head _)) rfl Try.underlying23 el3 rfl rfl (by omega) (by omega)) rfl rfl ?_
          refine wr_x (ox_load rfl Try.underlying3 rfl rfl (by first | exact hO0.get (.head _) (by omega))) rfl rfl ?_
          refine wr_nil ?_
          first | refine wl_x (ox_index (first + r) rfl Try.underlying23 el3 rfl rfl (by omega) (by omega)) rfl rfl rfl ?_ | refine wl_x (ox_indexR (first + r) (hO0.rd (.head _)) rfl Try.underlying23 el3 rfl rfl (by omega) (by omega)) rfl rfl rfl ?_
          refine wl_storeI 0 _ hO0 rfl el3 rfl rfl rfl (by omega) rfl rfl (fun mhO1 hzhO1 hO1 => ?_)
          first | refine wl_x (ox_index (first + (2 * r + 2)) rfl Try.underlying23 el3 rfl rfl (by omega) (by omega)) rfl rfl rfl ?_ | refine wl_x (ox_indexR (first + (2 * r + 2)) (hO1.rd (.head _)) rfl Try.underlying23 el3 rfl rfl (by omega) (by omega)) rfl rfl rfl ?_
          refine wl_storeI 0 _ hO1 rfl el3 rfl rfl rfl (by omega) rfl rfl (fun mhO2 hzhO2 hO2 => ?_)
          refine wl_nil ?_
          refine nx_q0 ?_
          refine nx_then ?_
          refine ws_region ?_
          refine wl_x (ox_move rfl rfl) rfl rfl rfl ?_
          refine wl_x (ox_assign rfl rfl) rfl rfl rfl ?_
          refine wl_nil ?_
          refine nx_block ?_
          refine nx_round (hi - (2 * r + 2)) _ (by omega) ⟨2 * r + 2, 2 * y + 1 + 1, _, mhO2, rfl, rfl, rfl, rfl, by omega, by omega, hO2, by omega, ?_⟩ (by repeat (first | exact trivial | refine ⟨rfl, ?_⟩))
          rw [← hR]; conv => rhs; unfold siftDown
          rw [dif_neg (by omega)]
          rw [if_pos (by simp; exact ⟨by omega, by simpa [Nat.add_assoc] using h2⟩)]
          rw [if_neg (by simpa using h3)]
          first | rfl | (rw [dif_pos (show 2 * r + 2 < hi by omega)]; rfl)
      · skip
        refine ws_skip ?_
        refine nx_then ?_
        refine ws_seq ?_
        refine ws_seq ?_
        refine ws_draw 12 fol (by kernel_rfl) rfl ?_
        simp only [List.take_succ_cons, List.take_zero, List.drop_succ_cons, List.drop_zero, List.take_nil, List.drop_nil]
        refine wr_x (ox_move rfl rfl) rfl rfl ?_
        refine wr_x (ox_move rfl rfl) rfl rfl ?_
        refine wr_x (ox_move rfl rfl) rfl rfl ?_
        refine wr_x (ox_add rfl rfl rfl (by omega)) rfl rfl ?_
        first | refine wr_x (ox_index (first + r) rfl Try.underlying23 el3 rfl rfl (by omega) (by omega)) rfl rfl ?_ | refine wr_x (ox_indexR (first + r) (hO0.rd (.head _)) rfl Try.underlying23 el3 rfl rfl (by omega) (by omega)) rfl rfl ?_
        refine wr_x (ox_load rfl Try.underlying3 rfl rfl (by first | exact hO0.get (.head _) (by omega))) rfl rfl ?_
        refine wr_x (ox_move rfl rfl) rfl rfl ?_
        refine wr_x (ox_move rfl rfl) rfl rfl ?_
        refine wr_x (ox_move rfl rfl) rfl rfl ?_
        refine wr_x (ox_add rfl rfl rfl (by omega)) rfl rfl ?_
        first | refine wr_x (ox_index (first + (2 * r + 1)) rfl Try.underlying23 el3 rfl rfl (by omega) (by omega)) rfl rfl ?_ | refine wr_x (ox_indexR (first + (2 * r + 1)) (hO0.rd (.head _)) rfl Try.underlying23 el3 rfl rfl (by omega) (by omega)) rfl rfl ?_
        refine wr_x (ox_load rfl Try.underlying3 rfl rfl (by first | exact hO0.get (.head _) (by omega))) rfl rfl ?_
        refine wr_nil ?_
        refine wl_x (ox_call rfl Try.call59 rfl (less_ok _ _ _ _)) rfl rfl rfl ?_
        refine wl_x (ox_not rfl rfl) rfl rfl rfl ?_
        refine wl_nil ?_
        refine nx_then ?_
        refine ws_cond rfl (fun h3 => ?_) (fun h3 => ?_)
        · skip
          refine ws_ret ?_
          refine nx_then_ret ?_
          refine nx_block_ret ?_
          refine nx_then_ret ?_
          refine nx_block_ret ?_
          exact nx_ret0 rfl (⟨rfl, m0, rfl, by rw [← hR]; unfold siftDown; rw [dif_neg (by omega)]; rw [if_neg (by simp; intro _; simpa [Nat.add_assoc] using h2)]; rw [if_pos (by simpa using h3)]; exact hO0⟩)
        · skip
          refine ws_skip ?_
          refine nx_then ?_
          refine ws_seq ?_
          refine ws_drawP 20 [false, false, false, false, true, true, true, true] fol (by kernel_rfl) (by kernel_rfl) (by kernel_rfl) ?_
          refine pz_x rfl rfl rfl rfl (px_move rfl rfl) ?_
          refine pz_x rfl rfl rfl rfl (px_move rfl rfl) ?_
          refine pz_x rfl rfl rfl rfl (px_move rfl rfl) ?_
          refine pz_x rfl rfl rfl rfl (px_add rfl rfl rfl (by omega)) ?_
          refine ⟨rfl, ?_⟩
          simp only [zapL, zap, List.cons_append, List.nil_append, List.take_succ_cons, List.take_zero, List.drop_succ_cons, List.drop_zero, List.take_nil, List.drop_nil]
          refine wr_x (ox_move rfl rfl) rfl rfl ?_
          refine wr_x (ox_move rfl rfl) rfl rfl ?_
          refine wr_x (ox_move rfl rfl) rfl rfl ?_
          refine wr_x (ox_add rfl rfl rfl (by omega)) rfl rfl ?_
          refine wr_z rfl rfl rfl ?_
          refine wr_z rfl rfl rfl ?_
          refine wr_z rfl rfl rfl ?_
          refine wr_z rfl rfl rfl ?_
          refine wr_x (ox_move rfl rfl) rfl rfl ?_
          refine wr_x (ox_move rfl rfl) rfl rfl ?_
          refine wr_x (ox_move rfl rfl) rfl rfl ?_
          refine wr_x (ox_add rfl rfl rfl (by omega)) rfl rfl ?_
          first | refine wr_x (ox_index (first + (2 * r + 1)) rfl Try.underlying23 el3 rfl rfl (by omega) (by omega)) rfl rfl ?_ | refine wr_x (ox_indexR (first + (2 * r + 1)) (hO0.rd (.head _)) rfl Try.underlying23 el3 rfl rfl (by omega) (by omega)) rfl rfl ?_
          refine wr_x (ox_load rfl Try.underlying3 rfl rfl (by first | exact hO0.get (.head _) (by omega))) rfl rfl ?_
          refine wr_x (ox_move rfl rfl) rfl rfl ?_
          refine wr_x (ox_move rfl rfl) rfl rfl ?_
          refine wr_x (ox_move rfl rfl) rfl rfl ?_
          refine wr_x (ox_add rfl rfl rfl (by omega)) rfl rfl ?_
          first | refine wr_x (ox_index (first + r) rfl Try.underlying23 el3 rfl rfl (by omega) (by omega)) rfl rfl ?_ | refine wr_x (ox_indexR (first + r) (hO0.rd (.head _)) rfl Try.underlying23 el3 rfl rfl (by omega) (by omega)) rfl rfl ?_
          refine wr_x (ox_load rfl Try.underlying3 rfl rfl (by first | exact hO0.get (.head _) (by omega))) rfl rfl ?_
          refine wr_nil ?_
          first | refine wl_x (ox_index (first + r) rfl Try.underlying23 el3 rfl rfl (by omega) (by omega)) rfl rfl rfl ?_ | refine wl_x (ox_indexR (first + r) (hO0.rd (.head _)) rfl Try.underlying23 el3 rfl rfl (by omega) (by omega)) rfl rfl rfl ?_
          refine wl_storeI 0 _ hO0 rfl el3 rfl rfl rfl (by omega) rfl rfl (fun mhO1 hzhO1 hO1 => ?_)
          first | refine wl_x (ox_index (first + (2 * r + 1)) rfl Try.underlying23 el3 rfl rfl (by omega) (by omega)) rfl rfl rfl ?_ | refine wl_x (ox_indexR (first + (2 * r + 1)) (hO1.rd (.head _)) rfl Try.underlying23 el3 rfl rfl (by omega) (by omega)) rfl rfl rfl ?_
          refine wl_storeI 0 _ hO1 rfl el3 rfl rfl rfl (by omega) rfl rfl (fun mhO2 hzhO2 hO2 => ?_)
          refine wl_nil ?_
          refine nx_q0 ?_
          refine nx_then ?_
          refine ws_region ?_
          refine wl_x (ox_move rfl rfl) rfl rfl rfl ?_
          refine wl_x (ox_assign rfl rfl) rfl rfl rfl ?_
          refine wl_nil ?_
          refine nx_block ?_
          refine nx_round (hi - (2 * r + 1)) _ (by omega) ⟨2 * r + 1, 2 * y + 1, _, mhO2, rfl, rfl, rfl, rfl, by omega, by omega, hO2, by omega, ?_⟩ (by repeat (first | exact trivial | refine ⟨rfl, ?_⟩))
          rw [← hR]; conv => rhs; unfold siftDown
          rw [dif_neg (by omega)]
          rw [if_neg (by simp; intro _; simpa [Nat.add_assoc] using h2)]
          rw [if_neg (by simpa using h3)]
          first | rfl | (rw [show True = True from rfl]; rfl)
    · skip
      refine wr_skip rfl rfl rfl rfl rfl ?_
      refine wr_skip rfl rfl rfl rfl rfl ?_
      refine wr_skip rfl rfl rfl rfl rfl ?_
      refine wr_skip rfl rfl rfl rfl rfl ?_
      refine wr_skip rfl rfl rfl rfl rfl ?_
      refine wr_skip rfl rfl rfl rfl rfl ?_
      refine wr_skip rfl rfl rfl rfl rfl ?_
      refine wr_skip rfl rfl rfl rfl rfl ?_
      refine wr_skip rfl rfl rfl rfl rfl ?_
      refine wr_skip rfl rfl rfl rfl rfl ?_
      refine wr_skip rfl rfl rfl rfl rfl ?_
      refine wr_skip rfl rfl rfl rfl rfl ?_
      refine wr_skip rfl rfl rfl rfl rfl ?_
      refine wr_nil ?_
      refine wl_skip rfl rfl rfl rfl rfl rfl rfl ?_
      refine wl_x (ox_pick_f rfl rfl rfl) rfl rfl rfl ?_
      refine wl_nil ?_
      refine nx_then ?_
      refine ws_cond_f rfl ?_
      refine ws_skip ?_
      refine nx_then ?_
      refine ws_seq ?_
      refine ws_seq ?_
      refine ws_draw 12 fol (by kernel_rfl) rfl ?_
      simp only [List.take_succ_cons, List.take_zero, List.drop_succ_cons, List.drop_zero, List.take_nil, List.drop_nil]
      refine wr_x (ox_move rfl rfl) rfl rfl ?_
      refine wr_x (ox_move rfl rfl) rfl rfl ?_
      refine wr_x (ox_move rfl rfl) rfl rfl ?_
      refine wr_x (ox_add rfl rfl rfl (by omega)) rfl rfl ?_
      first | refine wr_x (ox_index (first + r) rfl Try.underlying23 el3 rfl rfl (by omega) (by omega)) rfl rfl ?_ | refine wr_x (ox_indexR (first + r) (hO0.rd (.head _)) rfl Try.underlying23 el3 rfl rfl (by omega) (by omega)) rfl rfl ?_
      refine wr_x (ox_load rfl Try.underlying3 rfl rfl (by first | exact hO0.get (.head _) (by omega))) rfl rfl ?_
      refine wr_x (ox_move rfl rfl) rfl rfl ?_
      refine wr_x (ox_move rfl rfl) rfl rfl ?_
      refine wr_x (ox_move rfl rfl) rfl rfl ?_
      refine wr_x (ox_add rfl rfl rfl (by omega)) rfl rfl ?_
      first | refine wr_x (ox_index (first + (2 * r + 1)) rfl Try.underlying23 el3 rfl rfl (by omega) (by omega)) rfl rfl ?_ | refine wr_x (ox_indexR (first + (2 * r + 1)) (hO0.rd (.head _)) rfl Try.underlying23 el3 rfl rfl (by omega) (by omega)) rfl rfl ?_
      refine wr_x (ox_load rfl Try.underlying3 rfl rfl (by first | exact hO0.get (.head _) (by omega))) rfl rfl ?_
      refine wr_nil ?_
      refine wl_x (ox_call rfl Try.call59 rfl (less_ok _ _ _ _)) rfl rfl rfl ?_
      refine wl_x (ox_not rfl rfl) rfl rfl rfl ?_
      refine wl_nil ?_
      refine nx_then ?_
      refine ws_cond rfl (fun h3 => ?_) (fun h3 => ?_)
      · skip
        refine ws_ret ?_
        refine nx_then_ret ?_
        refine nx_block_ret ?_
        refine nx_then_ret ?_
        refine nx_block_ret ?_
        exact nx_ret0 rfl (⟨rfl, m0, rfl, by rw [← hR]; unfold siftDown; rw [dif_neg (by omega)]; rw [if_neg (by simp; intro h'; omega)]; rw [if_pos (by simpa using h3)]; exact hO0⟩)
      · skip
        refine ws_skip ?_
        refine nx_then ?_
        refine ws_seq ?_
        refine ws_drawP 20 [false, false, false, false, true, true, true, true] fol (by kernel_rfl) (by kernel_rfl) (by kernel_rfl) ?_
        refine pz_x rfl rfl rfl rfl (px_move rfl rfl) ?_
        refine pz_x rfl rfl rfl rfl (px_move rfl rfl) ?_
        refine pz_x rfl rfl rfl rfl (px_move rfl rfl) ?_
        refine pz_x rfl rfl rfl rfl (px_add rfl rfl rfl (by omega)) ?_
        refine ⟨rfl, ?_⟩
        simp only [zapL, zap, List.cons_append, List.nil_append, List.take_succ_cons, List.take_zero, List.drop_succ_cons, List.drop_zero, List.take_nil, List.drop_nil]
        refine wr_x (ox_move rfl rfl) rfl rfl ?_
        refine wr_x (ox_move rfl rfl) rfl rfl ?_
        refine wr_x (ox_move rfl rfl) rfl rfl ?_
        refine wr_x (ox_add rfl rfl rfl (by omega)) rfl rfl ?_
        refine wr_z rfl rfl rfl ?_
        refine wr_z rfl rfl rfl ?_
        refine wr_z rfl rfl rfl ?_
        refine wr_z rfl rfl rfl ?_
        refine wr_x (ox_move rfl rfl) rfl rfl ?_
        refine wr_x (ox_move rfl rfl) rfl rfl ?_
        refine wr_x (ox_move rfl rfl) rfl rfl ?_
        refine wr_x (ox_add rfl rfl rfl (by omega)) rfl rfl ?_
        first | refine wr_x (ox_index (first + (2 * r + 1)) rfl Try.underlying23 el3 rfl rfl (by omega) (by omega)) rfl rfl ?_ | refine wr_x (ox_indexR (first + (2 * r + 1)) (hO0.rd (.head _)) rfl Try.underlying23 el3 rfl rfl (by omega) (by omega)) rfl rfl ?_
        refine wr_x (ox_load rfl Try.underlying3 rfl rfl (by first | exact hO0.get (.head _) (by omega))) rfl rfl ?_
        refine wr_x (ox_move rfl rfl) rfl rfl ?_
        refine wr_x (ox_move rfl rfl) rfl rfl ?_
        refine wr_x (ox_move rfl rfl) rfl rfl ?_
        refine wr_x (ox_add rfl rfl rfl (by omega)) rfl rfl ?_
        first | refine wr_x (ox_index (first + r) rfl Try.underlying23 el3 rfl rfl (by omega) (by omega)) rfl rfl ?_ | refine wr_x (ox_indexR (first + r) (hO0.rd (.head _)) rfl Try.underlying23 el3 rfl rfl (by omega) (by omega)) rfl rfl ?_
        refine wr_x (ox_load rfl Try.underlying3 rfl rfl (by first | exact hO0.get (.head _) (by omega))) rfl rfl ?_
        refine wr_nil ?_
        first | refine wl_x (ox_index (first + r) rfl Try.underlying23 el3 rfl rfl (by omega) (by omega)) rfl rfl rfl ?_ | refine wl_x (ox_indexR (first + r) (hO0.rd (.head _)) rfl Try.underlying23 el3 rfl rfl (by omega) (by omega)) rfl rfl rfl ?_
        refine wl_storeI 0 _ hO0 rfl el3 rfl rfl rfl (by omega) rfl rfl (fun mhO1 hzhO1 hO1 => ?_)
        first | refine wl_x (ox_index (first + (2 * r + 1)) rfl Try.underlying23 el3 rfl rfl (by omega) (by omega)) rfl rfl rfl ?_ | refine wl_x (ox_indexR (first + (2 * r + 1)) (hO1.rd (.head _)) rfl Try.underlying23 el3 rfl rfl (by omega) (by omega)) rfl rfl rfl ?_
        refine wl_storeI 0 _ hO1 rfl el3 rfl rfl rfl (by omega) rfl rfl (fun mhO2 hzhO2 hO2 => ?_)
        refine wl_nil ?_
        refine nx_q0 ?_
        refine nx_then ?_
        refine ws_region ?_
        refine wl_x (ox_move rfl rfl) rfl rfl rfl ?_
        refine wl_x (ox_assign rfl rfl) rfl rfl rfl ?_
        refine wl_nil ?_
        refine nx_block ?_
        refine nx_round (hi - (2 * r + 1)) _ (by omega) ⟨2 * r + 1, 2 * y + 1, _, mhO2, rfl, rfl, rfl, rfl, by omega, by omega, hO2, by omega, ?_⟩ (by repeat (first | exact trivial | refine ⟨rfl, ?_⟩))
        rw [← hR]; conv => rhs; unfold siftDown
        rw [dif_neg (by omega)]
        rw [if_neg (by simp; intro h'; omega)]
        rw [if_neg (by simpa using h3)]
        first | rfl | (rw [show True = True from rfl]; rfl)

theorem swp_size' (d : Array Int) (i j : Nat) : (swp d i j).size = d.size := size_swp d i j
theorem siftDown_size (lt : Int → Int → Bool) (hi first : Nat) : ∀ (n root : Nat) (d : Array Int), hi - root ≤ n → (siftDown lt hi first root d).size = d.size := by
  intro n
  induction n with
  | zero => intro root d h; unfold siftDown; rw [dif_pos (by omega)]
  | succ n ih =>
    intro root d h
    unfold siftDown
    split
    · rfl
    · split
      · split
        · rfl
        · split
          · rw [ih _ _ (by omega), size_swp]
          · rfl
      · split
        · rfl
        · rw [ih _ _ (by omega), size_swp]
theorem siftDown_size' (lt : Int → Int → Bool) (hi first root : Nat) (d : Array Int) : (siftDown lt hi first root d).size = d.size := siftDown_size lt hi first _ root d (Nat.le_refl _)

theorem heapSort_ok (d : Array Int) (v : Value) (m : Hp) (hO : OI m v d) (a b : Nat) (hab : a < b) (hb : b ≤ d.size) (hsz : d.size ≤ 2305843009213693951) (h : Hp) {a' b' : Int} (ea : a' = a) (eb : b' = b) : FnT Try.prog 54 #[v, .int .i64 a', .int .i64 b'] h [m] (Left h v (heapSort ltInt d a b)) := by
  subst ea eb
  refine fn_enter Try.func54 Try.ntmps54 rfl rfl (fun w0 hw0 => ?_)
  simp only [argS]
  refine ws_seq ?_
  refine ws_region ?_
  refine wl_x (ox_move rfl rfl) rfl rfl rfl ?_
  refine wl_x (ox_assign rfl rfl) rfl rfl rfl ?_
  refine wl_nil ?_
  refine nx_then ?_
  refine ws_seq ?_
  refine ws_region ?_
  refine wl_x (ox_assign rfl rfl) rfl rfl rfl ?_
  refine wl_nil ?_
  refine nx_then ?_
  refine ws_seq ?_
  refine ws_region ?_
  refine wl_x (ox_move rfl rfl) rfl rfl rfl ?_
  refine wl_x (ox_move rfl rfl) rfl rfl rfl ?_
  refine wl_x (ox_sub rfl rfl rfl (by omega)) rfl rfl rfl ?_
  refine wl_x (ox_assign rfl rfl) rfl rfl rfl ?_
  refine wl_nil ?_
  refine nx_then ?_
  refine ws_seq ?_
  refine ws_seq ?_
  refine ws_region ?_
  refine wl_x (ox_move rfl rfl) rfl rfl rfl ?_
  refine wl_x (ox_sub rfl rfl rfl (by omega)) rfl rfl rfl ?_
  first | refine wl_x (ox_quoP rfl rfl rfl (by omega) (by omega)) rfl rfl rfl ?_ | refine wl_x (ox_quo rfl rfl rfl (by omega) (by omega)) rfl rfl rfl ?_
  refine wl_x (ox_assign rfl rfl) rfl rfl rfl ?_
  refine wl_nil ?_
  refine nx_then ?_
  refine ws_block ?_
  refine ws_loop (fun n s h' ms' => ∃ (y : Int) (d' : Array Int) (m : Hp), s = [(0, v), (6, .int .i64 a), (7, .int .i64 0), (8, .int .i64 ((b : Int) - a)), (9, .int .i64 y)] ∧ h = h' ∧ ms' = [m] ∧ y + 1 = n ∧ y < (b : Int) - a ∧ OI m v d' ∧ d'.size = d.size ∧ heapBuild ltInt (b - a) a n d' = heapBuild ltInt (b - a) a ((b - a - 1) / 2 + 1) d)
    ((b - a - 1) / 2 + 1) _ ⟨((b : Int) - a - 1) / 2, d, m, rfl, rfl, rfl, by omega, by omega, hO, rfl, rfl⟩ (by repeat (first | exact trivial | refine ⟨rfl, ?_⟩)) ?_
  rintro n s h' ms' ⟨y, d0, m0, rfl, rfl, rfl, hy, hya, hO0, hds, hR⟩
  refine ws_seq ?_
  refine ws_seq ?_
  refine ws_region ?_
  refine wl_x (ox_move rfl rfl) rfl rfl rfl ?_
  refine wl_x (ox_geq rfl rfl rfl) rfl rfl rfl ?_
  refine wl_nil ?_
  refine nx_then ?_
  refine ws_if rfl (fun hge => ?_) (fun hge => ?_)
  · skip
    obtain ⟨k, rfl⟩ : ∃ k, n = k + 1 := ⟨n - 1, by omega⟩
    refine ws_skip ?_
    refine nx_then ?_
    refine ws_seq ?_
    refine ws_block ?_
    refine ws_region ?_
    refine wl_x (ox_move rfl rfl) rfl rfl rfl ?_
    refine wl_x (ox_move rfl rfl) rfl rfl rfl ?_
    refine wl_x (ox_move rfl rfl) rfl rfl rfl ?_
    refine wl_x (ox_move rfl rfl) rfl rfl rfl ?_
    refine wl_call_ (pre := [m0]) rfl Try.call65 rfl (siftDown_ok d0 v m0 hO0 k (b - a) a (by omega) (by omega) (by omega) _ (by omega) (by omega) (by omega)) rfl rfl rfl rfl (fun _ _ _ _ hL => ?_)
    obtain ⟨rfl, m1, rfl, hO1⟩ := hL
    refine wl_nil ?_
    refine nx_block ?_
    refine nx_then ?_
    refine ws_region ?_
    refine wl_x (ox_move rfl rfl) rfl rfl rfl ?_
    refine wl_x (ox_sub rfl rfl rfl (by omega)) rfl rfl rfl ?_
    refine wl_x (ox_assign rfl rfl) rfl rfl rfl ?_
    refine wl_nil ?_
    refine nx_round k _ (by omega) ⟨y - 1, _, m1, rfl, rfl, rfl, by omega, by omega, hO1, by rw [siftDown_size']; exact hds, ?_⟩ (by repeat (first | exact trivial | refine ⟨rfl, ?_⟩))
    rw [← hR]; rfl
  · skip
    refine ws_exit ?_
    refine nx_then_exit ?_
    refine nx_then_exit ?_
    refine nx_block_exit ?_
    refine nx_then ?_
    refine ws_seq ?_
    refine ws_region ?_
    refine wl_x (ox_move rfl rfl) rfl rfl rfl ?_
    refine wl_x (ox_sub rfl rfl rfl (by omega)) rfl rfl rfl ?_
    refine wl_x (ox_assign rfl rfl) rfl rfl rfl ?_
    refine wl_nil ?_
    refine nx_then ?_
    refine ws_block ?_
    have hn : n = 0 := by omega
    subst hn
    have hR' : d0 = heapBuild ltInt (b - a) a ((b - a - 1) / 2 + 1) d := hR
    refine ws_loop (fun n s h' ms' => ∃ (y : Int) (d' : Array Int) (m : Hp), s = [(0, v), (6, .int .i64 a), (7, .int .i64 0), (10, .int .i64 y)] ∧ h = h' ∧ ms' = [m] ∧ y + 1 = n ∧ n ≤ b - a ∧ OI m v d' ∧ d'.size = d.size ∧ heapPop ltInt a n d' = heapSort ltInt d a b)
      (b - a) _ ⟨(b : Int) - a - 1, d0, m0, rfl, rfl, rfl, by omega, by omega, hO0, hds, by rw [hR']; rfl⟩ (by repeat (first | exact trivial | refine ⟨rfl, ?_⟩)) ?_
    rintro n s h' ms' ⟨x, d1, m1, rfl, rfl, rfl, hx, hna, hO1, hds1, hR1⟩
    refine ws_seq ?_
    refine ws_seq ?_
    refine ws_region ?_
    refine wl_x (ox_move rfl rfl) rfl rfl rfl ?_
    refine wl_x (ox_geq rfl rfl rfl) rfl rfl rfl ?_
    refine wl_nil ?_
    refine nx_then ?_
    refine ws_if rfl (fun hge2 => ?_) (fun hge2 => ?_)
    · skip
      obtain ⟨k, rfl⟩ : ∃ k, n = k + 1 := ⟨n - 1, by omega⟩
      refine ws_skip ?_
      refine nx_then ?_
      refine ws_seq ?_
      refine ws_block ?_
      refine ws_seq ?_
      refine ws_drawP 16 [false, false, true, true, true, true] fol (by kernel_rfl) (by kernel_rfl) (by kernel_rfl) ?_
      refine pz_x rfl rfl rfl rfl (px_move rfl rfl) ?_
      refine pz_x rfl rfl rfl rfl (px_move rfl rfl) ?_
      refine pz_x rfl rfl rfl rfl (px_move rfl rfl) ?_
      refine pz_x rfl rfl rfl rfl (px_add rfl rfl rfl (by omega)) ?_
      refine ⟨rfl, ?_⟩
      simp only [zapL, zap, List.cons_append, List.nil_append, List.take_succ_cons, List.take_zero, List.drop_succ_cons, List.drop_zero, List.take_nil, List.drop_nil]
      refine wr_x (ox_move rfl rfl) rfl rfl ?_
      refine wr_x (ox_move rfl rfl) rfl rfl ?_
      refine wr_z rfl rfl rfl ?_
      refine wr_z rfl rfl rfl ?_
      refine wr_z rfl rfl rfl ?_
      refine wr_z rfl rfl rfl ?_
      refine wr_x (ox_move rfl rfl) rfl rfl ?_
      refine wr_x (ox_move rfl rfl) rfl rfl ?_
      refine wr_x (ox_move rfl rfl) rfl rfl ?_
      refine wr_x (ox_add rfl rfl rfl (by omega)) rfl rfl ?_
      first | refine wr_x (ox_index (a + k) rfl Try.underlying23 el3 rfl rfl (by omega) (by omega)) rfl rfl ?_ | refine wr_x (ox_indexR (a + k) (hO1.rd (.head _)) rfl Try.underlying23 el3 rfl rfl (by omega) (by omega)) rfl rfl ?_
      refine wr_x (ox_load rfl Try.underlying3 rfl rfl (by first | exact hO1.get (.head _) (by omega))) rfl rfl ?_
      refine wr_x (ox_move rfl rfl) rfl rfl ?_
      refine wr_x (ox_move rfl rfl) rfl rfl ?_
      first | refine wr_x (ox_index a rfl Try.underlying23 el3 rfl rfl (by omega) (by omega)) rfl rfl ?_ | refine wr_x (ox_indexR a (hO1.rd (.head _)) rfl Try.underlying23 el3 rfl rfl (by omega) (by omega)) rfl rfl ?_
      refine wr_x (ox_load rfl Try.underlying3 rfl rfl (by first | exact hO1.get (.head _) (by omega))) rfl rfl ?_
      refine wr_nil ?_
      first | refine wl_x (ox_index a rfl Try.underlying23 el3 rfl rfl (by omega) (by omega)) rfl rfl rfl ?_ | refine wl_x (ox_indexR a (hO1.rd (.head _)) rfl Try.underlying23 el3 rfl rfl (by omega) (by omega)) rfl rfl rfl ?_
      refine wl_storeI 0 _ hO1 rfl el3 rfl rfl rfl (by omega) rfl rfl (fun mhO2 hzhO2 hO2 => ?_)
      first | refine wl_x (ox_index (a + k) rfl Try.underlying23 el3 rfl rfl (by omega) (by omega)) rfl rfl rfl ?_ | refine wl_x (ox_indexR (a + k) (hO2.rd (.head _)) rfl Try.underlying23 el3 rfl rfl (by omega) (by omega)) rfl rfl rfl ?_
      refine wl_storeI 0 _ hO2 rfl el3 rfl rfl rfl (by omega) rfl rfl (fun mhO3 hzhO3 hO3 => ?_)
      refine wl_nil ?_
      refine nx_q0 ?_
      refine nx_then ?_
      refine ws_region ?_
      refine wl_x (ox_move rfl rfl) rfl rfl rfl ?_
      refine wl_x (ox_move rfl rfl) rfl rfl rfl ?_
      refine wl_x (ox_move rfl rfl) rfl rfl rfl ?_
      refine wl_x (ox_move rfl rfl) rfl rfl rfl ?_
      refine wl_call_ (pre := [mhO3]) rfl Try.call65 rfl (siftDown_ok _ v _ hO3 0 k a (by omega) (by omega) (by omega) _ (by omega) (by omega) (by omega)) rfl rfl rfl rfl (fun _ _ _ _ hL => ?_)
      obtain ⟨rfl, m2, rfl, hO4⟩ := hL
      refine wl_nil ?_
      refine nx_block ?_
      refine nx_then ?_
      refine ws_region ?_
      refine wl_x (ox_move rfl rfl) rfl rfl rfl ?_
      refine wl_x (ox_sub rfl rfl rfl (by omega)) rfl rfl rfl ?_
      refine wl_x (ox_assign rfl rfl) rfl rfl rfl ?_
      refine wl_nil ?_
      refine nx_round k _ (by omega) ⟨x - 1, _, m2, rfl, rfl, rfl, by omega, by omega, hO4, by rw [siftDown_size']; omega, ?_⟩ (by repeat (first | exact trivial | refine ⟨rfl, ?_⟩))
      rw [← hR1]; rfl
    · skip
      refine ws_exit ?_
      refine nx_then_exit ?_
      refine nx_then_exit ?_
      refine nx_block_exit ?_
      have hn : n = 0 := by omega
      subst hn
      exact nx_end0 rfl (⟨rfl, m1, rfl, by rw [← hR1]; exact hO1⟩)
end Go.Proofs.Ythdkhnjnhhofgaa

/- Walks: the library's sort at integers: the partitions. -/
set_option linter.unusedSimpArgs false
set_option linter.unusedVariables false
set_option maxRecDepth 100000
namespace Go.Proofs.Ythdkhnjnhhofgaa
open Go.Eng Go.RowKit Go.Sort

theorem scanUp_step {p : Int → Bool} {d : Array Int} {j i : Nat} (h1 : i ≤ j) (h2 : p d[i]! = true) : scanUp p d j i = scanUp p d j (i + 1) := by
  conv => lhs; unfold scanUp
  rw [if_pos (by simp [h1, h2])]
theorem scanUp_stop {p : Int → Bool} {d : Array Int} {j i : Nat} (h : ¬ i ≤ j ∨ p d[i]! = false) : scanUp p d j i = i := by
  unfold scanUp
  rw [if_neg (by rcases h with h | h <;> simp [h])]
theorem scanDown_step {p : Int → Bool} {d : Array Int} {j i : Nat} (hj : 0 < j) (h1 : i ≤ j) (h2 : p d[j]! = true) : scanDown p d i j = scanDown p d i (j - 1) := by
  obtain ⟨k, rfl⟩ : ∃ k, j = k + 1 := ⟨j - 1, by omega⟩
  conv => lhs; unfold scanDown
  rw [if_pos (by simp [h1, h2])]; rfl
theorem scanDown_stop {p : Int → Bool} {d : Array Int} {j i : Nat} (h : ¬ i ≤ j ∨ p d[j]! = false) : scanDown p d i j = j := by
  cases j with
  | zero => rfl
  | succ k => unfold scanDown; rw [if_neg (by rcases h with h | h <;> simp [h])]


abbrev peS (v : Value) (a x z : Int) : Slots := [(0, v), (1, .int .i64 a), (9, .int .i64 x), (10, .int .i64 z)]

theorem partitionEqual_ok (d : Array Int) (v : Value) (m : Hp) (hO : OI m v d) (a b pivot : Nat) (hap : a ≤ pivot) (hpb : pivot < b) (hb : b ≤ d.size) (hsz : d.size ≤ 2305843009213693951) (h : Hp) {a' b' c' : Int} (ea : a' = a) (eb : b' = b) (ec : c' = pivot) :
    FnT Try.prog 60 #[v, .int .i64 a', .int .i64 b', .int .i64 c'] h [m] (fun r h' ms' => r = .int .i64 (partitionEqual ltInt d a b pivot).1 ∧ Left h v (partitionEqual ltInt d a b pivot).2 r h' ms') := by
  subst ea eb ec
  have hO0 := hO
  refine fn_enter Try.func60 Try.ntmps60 rfl rfl (fun w0 hw0 => ?_)
  simp only [argS]
  refine ws_seq ?_
  refine ws_region ?_
  refine wl_x (ox_assign rfl rfl) rfl rfl rfl ?_
  refine wl_nil ?_
  refine nx_then ?_
  refine ws_seq ?_
  refine ws_drawP 12 [false, false, true, true] fol (by kernel_rfl) (by kernel_rfl) (by kernel_rfl) ?_
  refine pz_x rfl rfl rfl rfl (px_move rfl rfl) ?_
  refine pz_x rfl rfl rfl rfl (px_move rfl rfl) ?_
  refine ⟨rfl, ?_⟩
  simp only [zapL, zap, List.cons_append, List.nil_append, List.take_succ_cons, List.take_zero, List.drop_succ_cons, List.drop_zero, List.take_nil, List.drop_nil]
  refine wr_x (ox_move rfl rfl) rfl rfl ?_
  refine wr_x (ox_move rfl rfl) rfl rfl ?_
  refine wr_z rfl rfl rfl ?_
  refine wr_z rfl rfl rfl ?_
  refine wr_x (ox_move rfl rfl) rfl rfl ?_
  refine wr_x (ox_move rfl rfl) rfl rfl ?_
  first | refine wr_x (ox_index pivot rfl Try.underlying23 el3 rfl rfl (by omega) (by omega)) rfl rfl ?_ | refine wr_x (ox_indexR pivot (hO0.rd (.head _)) rfl Try.underlying23 el3 rfl rfl (by omega) (by omega)) rfl rfl ?_
  refine wr_x (ox_load rfl Try.underlying3 rfl rfl (by first | exact hO0.get (.head _) (by omega))) rfl rfl ?_
  refine wr_x (ox_move rfl rfl) rfl rfl ?_
  refine wr_x (ox_move rfl rfl) rfl rfl ?_
  first | refine wr_x (ox_index a rfl Try.underlying23 el3 rfl rfl (by omega) (by omega)) rfl rfl ?_ | refine wr_x (ox_indexR a (hO0.rd (.head _)) rfl Try.underlying23 el3 rfl rfl (by omega) (by omega)) rfl rfl ?_
  refine wr_x (ox_load rfl Try.underlying3 rfl rfl (by first | exact hO0.get (.head _) (by omega))) rfl rfl ?_
  refine wr_nil ?_
  first | refine wl_x (ox_index a rfl Try.underlying23 el3 rfl rfl (by omega) (by omega)) rfl rfl rfl ?_ | refine wl_x (ox_indexR a (hO0.rd (.head _)) rfl Try.underlying23 el3 rfl rfl (by omega) (by omega)) rfl rfl rfl ?_
  refine wl_storeI 0 _ hO0 rfl el3 rfl rfl rfl (by omega) rfl rfl (fun mhO1 hzhO1 hO1 => ?_)
  first | refine wl_x (ox_index pivot rfl Try.underlying23 el3 rfl rfl (by omega) (by omega)) rfl rfl rfl ?_ | refine wl_x (ox_indexR pivot (hO1.rd (.head _)) rfl Try.underlying23 el3 rfl rfl (by omega) (by omega)) rfl rfl rfl ?_
  refine wl_storeI 0 _ hO1 rfl el3 rfl rfl rfl (by omega) rfl rfl (fun mhO2 hzhO2 hO2 => ?_)
  refine wl_nil ?_
  refine nx_q0 ?_
  refine nx_then ?_
  refine ws_seq ?_
  refine ws_region ?_
  refine wl_x (ox_move rfl rfl) rfl rfl rfl ?_
  refine wl_x (ox_add rfl rfl rfl (by omega)) rfl rfl rfl ?_
  refine wl_x (ox_move rfl rfl) rfl rfl rfl ?_
  refine wl_x (ox_sub rfl rfl rfl (by omega)) rfl rfl rfl ?_
  refine wl_x (ox_assign rfl rfl) rfl rfl rfl ?_
  refine wl_x (ox_assign rfl rfl) rfl rfl rfl ?_
  refine wl_nil ?_
  refine nx_then ?_
  refine ws_seq ?_
  refine ws_block ?_
  refine ws_loop (fun n s h' ms' => ∃ (i j : Nat) (y z : Int) (d' : Array Int) (m : Hp), n = j + 1 - i ∧ s = [(0, v), (1, .int .i64 a), (9, .int .i64 y), (10, .int .i64 z)] ∧ h = h' ∧ ms' = [m] ∧ y = i ∧ z = j ∧ a < i ∧ i ≤ j + 2 ∧ j < b ∧ OI m v d' ∧ d'.size = d.size ∧ partEqLoop ltInt a i j d' = partitionEqual ltInt d a b pivot)
    _ _ ⟨a + 1, b - 1, (a : Int) + 1, (b : Int) - 1, _, mhO2, rfl, rfl, rfl, rfl, by omega, by omega, by omega, by omega, by omega, hO2, by omega, rfl⟩ (by repeat (first | exact trivial | refine ⟨rfl, ?_⟩)) ?_
  rintro n s h' ms' ⟨i, j, y, z, d0, m0, rfl, rfl, rfl, rfl, hy, hz, hai, hij, hjb, hO0, hds, hR⟩
  refine ws_block ?_
  refine ws_cut (fun s h' ms' => ∃ (i2 : Nat) (x : Int), s = peS v a x z ∧ h = h' ∧ ms' = [m0] ∧ x = i2 ∧ i ≤ i2 ∧ i2 ≤ j + 2 ∧ i2 = scanUp (fun x => !ltInt d0[a]! x) d0 j i) ?_ (fun s h ms hI => ?_)
  · skip
    refine ws_block ?_
    refine ws_loop (fun n s h' ms' => ∃ (i1 : Nat) (x : Int), n = j + 1 - i1 ∧ s = peS v a x z ∧ h = h' ∧ ms' = [m0] ∧ x = i1 ∧ i ≤ i1 ∧ i1 ≤ j + 2 ∧ scanUp (fun x => !ltInt d0[a]! x) d0 j i1 = scanUp (fun x => !ltInt d0[a]! x) d0 j i)
      _ _ ⟨i, y, rfl, rfl, rfl, rfl, hy, by omega, by omega, rfl⟩ (by repeat (first | exact trivial | refine ⟨rfl, ?_⟩)) ?_
    rintro n s h' ms' ⟨i1, x, rfl, rfl, rfl, rfl, hx, hi1, hi1j, hS⟩
    refine ws_seq ?_
    refine ws_seq ?_
    refine ws_draw 12 fol (by kernel_rfl) rfl ?_
    simp only [List.take_succ_cons, List.take_zero, List.drop_succ_cons, List.drop_zero, List.take_nil, List.drop_nil]
    refine wr_x (ox_move rfl rfl) rfl rfl ?_
    refine wr_x (ox_move rfl rfl) rfl rfl ?_
    refine wr_x (ox_leq rfl rfl rfl) rfl rfl ?_
    refine wr_x (ox_move rfl rfl) rfl rfl ?_
    refine wr_split (t := 32) rfl (fun hle => ?_) (fun hle => ?_)
    · skip
      refine wr_gx (ox_move rfl rfl) rfl rfl rfl rfl ?_
      refine wr_gx (ox_move rfl rfl) rfl rfl rfl rfl ?_
      first | refine wr_gx (ox_index a rfl Try.underlying23 el3 rfl rfl (by omega) (by omega)) rfl rfl rfl rfl ?_ | refine wr_gx (ox_indexR a (hO0.rd (.head _)) rfl Try.underlying23 el3 rfl rfl (by omega) (by omega)) rfl rfl rfl rfl ?_
      refine wr_gx (ox_load rfl Try.underlying3 rfl rfl (by first | exact hO0.get (.head _) (by omega))) rfl rfl rfl rfl ?_
      refine wr_gx (ox_move rfl rfl) rfl rfl rfl rfl ?_
      refine wr_gx (ox_move rfl rfl) rfl rfl rfl rfl ?_
      first | refine wr_gx (ox_index i1 rfl Try.underlying23 el3 rfl rfl (by omega) (by omega)) rfl rfl rfl rfl ?_ | refine wr_gx (ox_indexR i1 (hO0.rd (.head _)) rfl Try.underlying23 el3 rfl rfl (by omega) (by omega)) rfl rfl rfl rfl ?_
      refine wr_gx (ox_load rfl Try.underlying3 rfl rfl (by first | exact hO0.get (.head _) (by omega))) rfl rfl rfl rfl ?_
      refine wr_nil ?_
      refine wl_gx (ox_call rfl Try.call59 rfl (less_ok _ _ _ _)) rfl rfl rfl rfl rfl rfl ?_
      refine wl_gx (ox_not rfl rfl) rfl rfl rfl rfl rfl rfl ?_
      refine wl_x (ox_pick_t rfl rfl rfl) rfl rfl rfl ?_
      refine wl_nil ?_
      refine nx_then ?_
      refine ws_cond rfl (fun hp => ?_) (fun hp => ?_)
      · skip
        refine ws_skip ?_
        refine nx_then ?_
        refine ws_block ?_
        refine ws_region ?_
        refine wl_x (ox_move rfl rfl) rfl rfl rfl ?_
        refine wl_x (ox_add rfl rfl rfl (by omega)) rfl rfl rfl ?_
        refine wl_x (ox_assign rfl rfl) rfl rfl rfl ?_
        refine wl_nil ?_
        refine nx_block ?_
        refine nx_round (j + 1 - (i1 + 1)) _ (by omega) ⟨i1 + 1, x + 1, rfl, rfl, rfl, rfl, by omega, by omega, by omega, by rw [← hS]; exact (scanUp_step (p := (fun x => !ltInt d0[a]! x)) (by omega) hp).symm⟩ (by repeat (first | exact trivial | refine ⟨rfl, ?_⟩))
      · skip
        refine ws_exit ?_
        refine nx_then_exit ?_
        refine nx_then_exit ?_
        refine nx_block_exit ?_
        refine nx_meet _ ⟨i1, x, rfl, rfl, rfl, hx, hi1, hi1j, by rw [← hS]; exact (scanUp_stop (p := (fun x => !ltInt d0[a]! x)) (.inr hp)).symm⟩ (by repeat (first | exact trivial | refine ⟨rfl, ?_⟩))
    · skip
      refine wr_skip rfl rfl rfl rfl rfl ?_
      refine wr_skip rfl rfl rfl rfl rfl ?_
      refine wr_skip rfl rfl rfl rfl rfl ?_
      refine wr_skip rfl rfl rfl rfl rfl ?_
      refine wr_skip rfl rfl rfl rfl rfl ?_
      refine wr_skip rfl rfl rfl rfl rfl ?_
      refine wr_skip rfl rfl rfl rfl rfl ?_
      refine wr_skip rfl rfl rfl rfl rfl ?_
      refine wr_nil ?_
      refine wl_skip rfl rfl rfl rfl rfl rfl rfl ?_
      refine wl_skip rfl rfl rfl rfl rfl rfl rfl ?_
      refine wl_x (ox_pick_f rfl rfl rfl) rfl rfl rfl ?_
      refine wl_nil ?_
      refine nx_then ?_
      refine ws_cond_f rfl ?_
      refine ws_exit ?_
      refine nx_then_exit ?_
      refine nx_then_exit ?_
      refine nx_block_exit ?_
      refine nx_meet _ ⟨i1, x, rfl, rfl, rfl, hx, hi1, hi1j, by rw [← hS]; exact (scanUp_stop (.inl (by omega))).symm⟩ (by repeat (first | exact trivial | refine ⟨rfl, ?_⟩))
  · skip
    obtain ⟨i2, x, rfl, rfl, rfl, hx, hi2, hi2j, hu⟩ := hI
    refine ws_cut (fun s h' ms' => ∃ (j2 : Nat) (q : Int), s = peS v a x q ∧ h = h' ∧ ms' = [m0] ∧ q = j2 ∧ j2 ≤ j ∧ i2 ≤ j2 + 2 ∧ j2 = scanDown (fun x => ltInt d0[a]! x) d0 i2 j) ?_ (fun s h ms hI => ?_)
    · skip
      refine ws_block ?_
      refine ws_loop (fun n s h' ms' => ∃ (j1 : Nat) (q : Int), n = j1 + 1 - i2 ∧ s = peS v a x q ∧ h = h' ∧ ms' = [m0] ∧ q = j1 ∧ j1 ≤ j ∧ i2 ≤ j1 + 2 ∧ scanDown (fun x => ltInt d0[a]! x) d0 i2 j1 = scanDown (fun x => ltInt d0[a]! x) d0 i2 j)
        _ _ ⟨j, z, rfl, rfl, rfl, rfl, hz, by omega, by omega, rfl⟩ (by repeat (first | exact trivial | refine ⟨rfl, ?_⟩)) ?_
      rintro n s h' ms' ⟨j1, q, rfl, rfl, rfl, rfl, hq, hj1, hj1i, hS⟩
      refine ws_seq ?_
      refine ws_seq ?_
      refine ws_draw 12 fol (by kernel_rfl) rfl ?_
      simp only [List.take_succ_cons, List.take_zero, List.drop_succ_cons, List.drop_zero, List.take_nil, List.drop_nil]
      refine wr_x (ox_move rfl rfl) rfl rfl ?_
      refine wr_x (ox_move rfl rfl) rfl rfl ?_
      refine wr_x (ox_leq rfl rfl rfl) rfl rfl ?_
      refine wr_x (ox_move rfl rfl) rfl rfl ?_
      refine wr_split (t := 49) rfl (fun hle => ?_) (fun hle => ?_)
      · skip
        refine wr_gx (ox_move rfl rfl) rfl rfl rfl rfl ?_
        refine wr_gx (ox_move rfl rfl) rfl rfl rfl rfl ?_
        first | refine wr_gx (ox_index a rfl Try.underlying23 el3 rfl rfl (by omega) (by omega)) rfl rfl rfl rfl ?_ | refine wr_gx (ox_indexR a (hO0.rd (.head _)) rfl Try.underlying23 el3 rfl rfl (by omega) (by omega)) rfl rfl rfl rfl ?_
        refine wr_gx (ox_load rfl Try.underlying3 rfl rfl (by first | exact hO0.get (.head _) (by omega))) rfl rfl rfl rfl ?_
        refine wr_gx (ox_move rfl rfl) rfl rfl rfl rfl ?_
        refine wr_gx (ox_move rfl rfl) rfl rfl rfl rfl ?_
        first | refine wr_gx (ox_index j1 rfl Try.underlying23 el3 rfl rfl (by omega) (by omega)) rfl rfl rfl rfl ?_ | refine wr_gx (ox_indexR j1 (hO0.rd (.head _)) rfl Try.underlying23 el3 rfl rfl (by omega) (by omega)) rfl rfl rfl rfl ?_
        refine wr_gx (ox_load rfl Try.underlying3 rfl rfl (by first | exact hO0.get (.head _) (by omega))) rfl rfl rfl rfl ?_
        refine wr_nil ?_
        refine wl_gx (ox_call rfl Try.call59 rfl (less_ok _ _ _ _)) rfl rfl rfl rfl rfl rfl ?_
        refine wl_x (ox_pick_t rfl rfl rfl) rfl rfl rfl ?_
        refine wl_nil ?_
        refine nx_then ?_
        refine ws_cond rfl (fun hp => ?_) (fun hp => ?_)
        · skip
          refine ws_skip ?_
          refine nx_then ?_
          refine ws_block ?_
          refine ws_region ?_
          refine wl_x (ox_move rfl rfl) rfl rfl rfl ?_
          refine wl_x (ox_sub rfl rfl rfl (by omega)) rfl rfl rfl ?_
          refine wl_x (ox_assign rfl rfl) rfl rfl rfl ?_
          refine wl_nil ?_
          refine nx_block ?_
          refine nx_round (j1 - 1 + 1 - i2) _ (by omega) ⟨j1 - 1, q - 1, rfl, rfl, rfl, rfl, by omega, by omega, by omega, by rw [← hS]; exact (scanDown_step (p := (fun x => ltInt d0[a]! x)) (by omega) (by omega) hp).symm⟩ (by repeat (first | exact trivial | refine ⟨rfl, ?_⟩))
        · skip
          refine ws_exit ?_
          refine nx_then_exit ?_
          refine nx_then_exit ?_
          refine nx_block_exit ?_
          refine nx_meet _ ⟨j1, q, rfl, rfl, rfl, hq, hj1, hj1i, by rw [← hS]; exact (scanDown_stop (p := (fun x => ltInt d0[a]! x)) (.inr hp)).symm⟩ (by repeat (first | exact trivial | refine ⟨rfl, ?_⟩))
      · skip
        refine wr_skip rfl rfl rfl rfl rfl ?_
        refine wr_skip rfl rfl rfl rfl rfl ?_
        refine wr_skip rfl rfl rfl rfl rfl ?_
        refine wr_skip rfl rfl rfl rfl rfl ?_
        refine wr_skip rfl rfl rfl rfl rfl ?_
        refine wr_skip rfl rfl rfl rfl rfl ?_
        refine wr_skip rfl rfl rfl rfl rfl ?_
        refine wr_skip rfl rfl rfl rfl rfl ?_
        refine wr_nil ?_
        refine wl_skip rfl rfl rfl rfl rfl rfl rfl ?_
        refine wl_x (ox_pick_f rfl rfl rfl) rfl rfl rfl ?_
        refine wl_nil ?_
        refine nx_then ?_
        refine ws_cond_f rfl ?_
        refine ws_exit ?_
        refine nx_then_exit ?_
        refine nx_then_exit ?_
        refine nx_block_exit ?_
        refine nx_meet _ ⟨j1, q, rfl, rfl, rfl, hq, hj1, hj1i, by rw [← hS]; exact (scanDown_stop (.inl (by omega))).symm⟩ (by repeat (first | exact trivial | refine ⟨rfl, ?_⟩))
    · skip
      obtain ⟨j2, q, rfl, rfl, rfl, hq, hj2, hj2i, hd2⟩ := hI
      refine ws_seq ?_
      refine ws_seq ?_
      refine ws_region ?_
      refine wl_x (ox_move rfl rfl) rfl rfl rfl ?_
      refine wl_x (ox_move rfl rfl) rfl rfl rfl ?_
      refine wl_x (ox_gtr rfl rfl rfl) rfl rfl rfl ?_
      refine wl_nil ?_
      refine nx_then ?_
      refine ws_if rfl (fun hgt => ?_) (fun hgt => ?_)
      · skip
        refine ws_exit ?_
        refine nx_then_exit ?_
        refine nx_block_out rfl ?_
        refine nx_then_exit ?_
        refine nx_block_exit ?_
        refine nx_then ?_
        refine ws_seq ?_
        refine ws_region ?_
        refine wl_x (ox_move rfl rfl) rfl rfl rfl ?_
        refine wl_x (ox_assign rfl rfl) rfl rfl rfl ?_
        refine wl_nil ?_
        refine nx_then ?_
        refine ws_ret ?_
        have hE : partEqLoop ltInt a i j d0 = (i2, d0) := by unfold partEqLoop; simp only [← hu, ← hd2]; rw [if_pos (by omega)]
        rw [← hR, hE]
        exact nx_ret1 rfl rfl (⟨by rw [hx], rfl, m0, rfl, hO0⟩)
      · skip
        refine ws_skip ?_
        refine nx_then ?_
        refine ws_seq ?_
        refine ws_drawP 12 [false, false, true, true] fol (by kernel_rfl) (by kernel_rfl) (by kernel_rfl) ?_
        refine pz_x rfl rfl rfl rfl (px_move rfl rfl) ?_
        refine pz_x rfl rfl rfl rfl (px_move rfl rfl) ?_
        refine ⟨rfl, ?_⟩
        simp only [zapL, zap, List.cons_append, List.nil_append, List.take_succ_cons, List.take_zero, List.drop_succ_cons, List.drop_zero, List.take_nil, List.drop_nil]
        refine wr_x (ox_move rfl rfl) rfl rfl ?_
        refine wr_x (ox_move rfl rfl) rfl rfl ?_
        refine wr_z rfl rfl rfl ?_
        refine wr_z rfl rfl rfl ?_
        refine wr_x (ox_move rfl rfl) rfl rfl ?_
        refine wr_x (ox_move rfl rfl) rfl rfl ?_
        first | refine wr_x (ox_index j2 rfl Try.underlying23 el3 rfl rfl (by omega) (by omega)) rfl rfl ?_ | refine wr_x (ox_indexR j2 (hO0.rd (.head _)) rfl Try.underlying23 el3 rfl rfl (by omega) (by omega)) rfl rfl ?_
        refine wr_x (ox_load rfl Try.underlying3 rfl rfl (by first | exact hO0.get (.head _) (by omega))) rfl rfl ?_
        refine wr_x (ox_move rfl rfl) rfl rfl ?_
        refine wr_x (ox_move rfl rfl) rfl rfl ?_
        first | refine wr_x (ox_index i2 rfl Try.underlying23 el3 rfl rfl (by omega) (by omega)) rfl rfl ?_ | refine wr_x (ox_indexR i2 (hO0.rd (.head _)) rfl Try.underlying23 el3 rfl rfl (by omega) (by omega)) rfl rfl ?_
        refine wr_x (ox_load rfl Try.underlying3 rfl rfl (by first | exact hO0.get (.head _) (by omega))) rfl rfl ?_
        refine wr_nil ?_
        first | refine wl_x (ox_index i2 rfl Try.underlying23 el3 rfl rfl (by omega) (by omega)) rfl rfl rfl ?_ | refine wl_x (ox_indexR i2 (hO0.rd (.head _)) rfl Try.underlying23 el3 rfl rfl (by omega) (by omega)) rfl rfl rfl ?_
        refine wl_storeI 0 _ hO0 rfl el3 rfl rfl rfl (by omega) rfl rfl (fun mhO1 hzhO1 hO1 => ?_)
        first | refine wl_x (ox_index j2 rfl Try.underlying23 el3 rfl rfl (by omega) (by omega)) rfl rfl rfl ?_ | refine wl_x (ox_indexR j2 (hO1.rd (.head _)) rfl Try.underlying23 el3 rfl rfl (by omega) (by omega)) rfl rfl rfl ?_
        refine wl_storeI 0 _ hO1 rfl el3 rfl rfl rfl (by omega) rfl rfl (fun mhO2 hzhO2 hO2 => ?_)
        refine wl_nil ?_
        refine nx_q0 ?_
        refine nx_then ?_
        refine ws_seq ?_
        refine ws_region ?_
        refine wl_x (ox_move rfl rfl) rfl rfl rfl ?_
        refine wl_x (ox_add rfl rfl rfl (by omega)) rfl rfl rfl ?_
        refine wl_x (ox_assign rfl rfl) rfl rfl rfl ?_
        refine wl_nil ?_
        refine nx_then ?_
        refine ws_region ?_
        refine wl_x (ox_move rfl rfl) rfl rfl rfl ?_
        refine wl_x (ox_sub rfl rfl rfl (by omega)) rfl rfl rfl ?_
        refine wl_x (ox_assign rfl rfl) rfl rfl rfl ?_
        refine wl_nil ?_
        refine nx_block ?_
        refine nx_round ((j2 - 1) + 1 - (i2 + 1)) _ (by omega) ⟨i2 + 1, j2 - 1, x + 1, q - 1, _, mhO2, rfl, rfl, rfl, rfl, by omega, by omega, by omega, by omega, by omega, hO2, by omega, ?_⟩ (by repeat (first | exact trivial | refine ⟨rfl, ?_⟩))
        rw [← hR]; conv => rhs; unfold partEqLoop
        simp only [← hu, ← hd2]
        rw [if_neg (by omega), dif_pos (by omega)]; rfl

abbrev prS (v : Value) (a x z : Int) : Slots := [(0, v), (1, .int .i64 a), (10, .int .i64 x), (11, .int .i64 z)]
theorem partition_ok (d : Array Int) (v : Value) (m : Hp) (hO : OI m v d) (a b pivot : Nat) (hap : a ≤ pivot) (hpb : pivot < b) (hb : b ≤ d.size) (hsz : d.size ≤ 2305843009213693951) (h : Hp) {a' b' c' : Int} (ea : a' = a) (eb : b' = b) (ec : c' = pivot) :
    FnT Try.prog 61 #[v, .int .i64 a', .int .i64 b', .int .i64 c'] h [m] (fun r h' ms' => r = .tuple #[.int .i64 (Sort.partition ltInt d a b pivot).1, .bool (Sort.partition ltInt d a b pivot).2.1] ∧ Left h v (Sort.partition ltInt d a b pivot).2.2 r h' ms') := by
  subst ea eb ec
  have hO0 := hO
  refine fn_enter Try.func61 Try.ntmps61 rfl rfl (fun w0 hw0 => ?_)
  simp only [argS]
  refine ws_seq ?_
  refine ws_region ?_
  refine wl_x (ox_assign rfl rfl) rfl rfl rfl ?_
  refine wl_x (ox_assign rfl rfl) rfl rfl rfl ?_
  refine wl_nil ?_
  refine nx_then ?_
  refine ws_seq ?_
  refine ws_drawP 12 [false, false, true, true] fol (by kernel_rfl) (by kernel_rfl) (by kernel_rfl) ?_
  refine pz_x rfl rfl rfl rfl (px_move rfl rfl) ?_
  refine pz_x rfl rfl rfl rfl (px_move rfl rfl) ?_
  refine ⟨rfl, ?_⟩
  simp only [zapL, zap, List.cons_append, List.nil_append, List.take_succ_cons, List.take_zero, List.drop_succ_cons, List.drop_zero, List.take_nil, List.drop_nil]
  refine wr_x (ox_move rfl rfl) rfl rfl ?_
  refine wr_x (ox_move rfl rfl) rfl rfl ?_
  refine wr_z rfl rfl rfl ?_
  refine wr_z rfl rfl rfl ?_
  refine wr_x (ox_move rfl rfl) rfl rfl ?_
  refine wr_x (ox_move rfl rfl) rfl rfl ?_
  first | refine wr_x (ox_index pivot rfl Try.underlying23 el3 rfl rfl (by omega) (by omega)) rfl rfl ?_ | refine wr_x (ox_indexR pivot (hO0.rd (.head _)) rfl Try.underlying23 el3 rfl rfl (by omega) (by omega)) rfl rfl ?_
  refine wr_x (ox_load rfl Try.underlying3 rfl rfl (by first | exact hO0.get (.head _) (by omega))) rfl rfl ?_
  refine wr_x (ox_move rfl rfl) rfl rfl ?_
  refine wr_x (ox_move rfl rfl) rfl rfl ?_
  first | refine wr_x (ox_index a rfl Try.underlying23 el3 rfl rfl (by omega) (by omega)) rfl rfl ?_ | refine wr_x (ox_indexR a (hO0.rd (.head _)) rfl Try.underlying23 el3 rfl rfl (by omega) (by omega)) rfl rfl ?_
  refine wr_x (ox_load rfl Try.underlying3 rfl rfl (by first | exact hO0.get (.head _) (by omega))) rfl rfl ?_
  refine wr_nil ?_
  first | refine wl_x (ox_index a rfl Try.underlying23 el3 rfl rfl (by omega) (by omega)) rfl rfl rfl ?_ | refine wl_x (ox_indexR a (hO0.rd (.head _)) rfl Try.underlying23 el3 rfl rfl (by omega) (by omega)) rfl rfl rfl ?_
  refine wl_storeI 0 _ hO0 rfl el3 rfl rfl rfl (by omega) rfl rfl (fun mhO1 hzhO1 hO1 => ?_)
  first | refine wl_x (ox_index pivot rfl Try.underlying23 el3 rfl rfl (by omega) (by omega)) rfl rfl rfl ?_ | refine wl_x (ox_indexR pivot (hO1.rd (.head _)) rfl Try.underlying23 el3 rfl rfl (by omega) (by omega)) rfl rfl rfl ?_
  refine wl_storeI 0 _ hO1 rfl el3 rfl rfl rfl (by omega) rfl rfl (fun mhO2 hzhO2 hO2 => ?_)
  refine wl_nil ?_
  refine nx_q0 ?_
  refine nx_then ?_
  refine ws_seq ?_
  refine ws_region ?_
  refine wl_x (ox_move rfl rfl) rfl rfl rfl ?_
  refine wl_x (ox_add rfl rfl rfl (by omega)) rfl rfl rfl ?_
  refine wl_x (ox_move rfl rfl) rfl rfl rfl ?_
  refine wl_x (ox_sub rfl rfl rfl (by omega)) rfl rfl rfl ?_
  refine wl_x (ox_assign rfl rfl) rfl rfl rfl ?_
  refine wl_x (ox_assign rfl rfl) rfl rfl rfl ?_
  refine wl_nil ?_
  refine nx_then ?_
  generalize hy : (a : Int) + 1 = y
  generalize hz : (b : Int) - 1 = z
  obtain ⟨i, hi⟩ : ∃ i, i = a + 1 := ⟨_, rfl⟩
  obtain ⟨j, hj⟩ : ∃ j, j = b - 1 := ⟨_, rfl⟩
  obtain ⟨m0, rfl⟩ : ∃ m0, m0 = mhO2 := ⟨_, rfl⟩
  obtain ⟨d0, hd0⟩ : ∃ d0, d0 = swp d a pivot := ⟨_, rfl⟩
  have hO0 : OI m0 v d0 := by rw [hd0]; exact hO2
  have hds : d0.size = d.size := by rw [hd0]; exact size_swp _ _ _
  have hy : y = i := by omega
  have hz : z = j := by omega
  refine ws_cut (fun s h' ms' => ∃ (i2 : Nat) (x : Int), s = prS v a x z ∧ h = h' ∧ ms' = [m0] ∧ x = i2 ∧ i ≤ i2 ∧ i2 ≤ j + 2 ∧ i2 = scanUp (fun x => ltInt x d0[a]!) d0 j i) ?_ (fun s h ms hI => ?_)
  · skip
    refine ws_block ?_
    refine ws_loop (fun n s h' ms' => ∃ (i1 : Nat) (x : Int), n = j + 1 - i1 ∧ s = prS v a x z ∧ h = h' ∧ ms' = [m0] ∧ x = i1 ∧ i ≤ i1 ∧ i1 ≤ j + 2 ∧ scanUp (fun x => ltInt x d0[a]!) d0 j i1 = scanUp (fun x => ltInt x d0[a]!) d0 j i)
      _ _ ⟨i, y, rfl, rfl, rfl, rfl, hy, by omega, by omega, rfl⟩ (by repeat (first | exact trivial | refine ⟨rfl, ?_⟩)) ?_
    rintro n s h' ms' ⟨i1, x, rfl, rfl, rfl, rfl, hx, hi1, hi1j, hS⟩
    refine ws_seq ?_
    refine ws_seq ?_
    refine ws_draw 12 fol (by kernel_rfl) rfl ?_
    simp only [List.take_succ_cons, List.take_zero, List.drop_succ_cons, List.drop_zero, List.take_nil, List.drop_nil]
    refine wr_x (ox_move rfl rfl) rfl rfl ?_
    refine wr_x (ox_move rfl rfl) rfl rfl ?_
    refine wr_x (ox_leq rfl rfl rfl) rfl rfl ?_
    refine wr_x (ox_move rfl rfl) rfl rfl ?_
    refine wr_split (t := 33) rfl (fun hle => ?_) (fun hle => ?_)
    · skip
      refine wr_gx (ox_move rfl rfl) rfl rfl rfl rfl ?_
      refine wr_gx (ox_move rfl rfl) rfl rfl rfl rfl ?_
      first | refine wr_gx (ox_index i1 rfl Try.underlying23 el3 rfl rfl (by omega) (by omega)) rfl rfl rfl rfl ?_ | refine wr_gx (ox_indexR i1 (hO0.rd (.head _)) rfl Try.underlying23 el3 rfl rfl (by omega) (by omega)) rfl rfl rfl rfl ?_
      refine wr_gx (ox_load rfl Try.underlying3 rfl rfl (by first | exact hO0.get (.head _) (by omega))) rfl rfl rfl rfl ?_
      refine wr_gx (ox_move rfl rfl) rfl rfl rfl rfl ?_
      refine wr_gx (ox_move rfl rfl) rfl rfl rfl rfl ?_
      first | refine wr_gx (ox_index a rfl Try.underlying23 el3 rfl rfl (by omega) (by omega)) rfl rfl rfl rfl ?_ | refine wr_gx (ox_indexR a (hO0.rd (.head _)) rfl Try.underlying23 el3 rfl rfl (by omega) (by omega)) rfl rfl rfl rfl ?_
      refine wr_gx (ox_load rfl Try.underlying3 rfl rfl (by first | exact hO0.get (.head _) (by omega))) rfl rfl rfl rfl ?_
      refine wr_nil ?_
      refine wl_gx (ox_call rfl Try.call59 rfl (less_ok _ _ _ _)) rfl rfl rfl rfl rfl rfl ?_
      refine wl_x (ox_pick_t rfl rfl rfl) rfl rfl rfl ?_
      refine wl_nil ?_
      refine nx_then ?_
      refine ws_cond rfl (fun hp => ?_) (fun hp => ?_)
      · skip
        refine ws_skip ?_
        refine nx_then ?_
        refine ws_block ?_
        refine ws_region ?_
        refine wl_x (ox_move rfl rfl) rfl rfl rfl ?_
        refine wl_x (ox_add rfl rfl rfl (by omega)) rfl rfl rfl ?_
        refine wl_x (ox_assign rfl rfl) rfl rfl rfl ?_
        refine wl_nil ?_
        refine nx_block ?_
        refine nx_round (j + 1 - (i1 + 1)) _ (by omega) ⟨i1 + 1, x + 1, rfl, rfl, rfl, rfl, by omega, by omega, by omega, by rw [← hS]; exact (scanUp_step (p := (fun x => ltInt x d0[a]!)) (by omega) hp).symm⟩ (by repeat (first | exact trivial | refine ⟨rfl, ?_⟩))
      · skip
        refine ws_exit ?_
        refine nx_then_exit ?_
        refine nx_then_exit ?_
        refine nx_block_exit ?_
        refine nx_meet _ ⟨i1, x, rfl, rfl, rfl, hx, hi1, hi1j, by rw [← hS]; exact (scanUp_stop (p := (fun x => ltInt x d0[a]!)) (.inr hp)).symm⟩ (by repeat (first | exact trivial | refine ⟨rfl, ?_⟩))
    · skip
      refine wr_skip rfl rfl rfl rfl rfl ?_
      refine wr_skip rfl rfl rfl rfl rfl ?_
      refine wr_skip rfl rfl rfl rfl rfl ?_
      refine wr_skip rfl rfl rfl rfl rfl ?_
      refine wr_skip rfl rfl rfl rfl rfl ?_
      refine wr_skip rfl rfl rfl rfl rfl ?_
      refine wr_skip rfl rfl rfl rfl rfl ?_
      refine wr_skip rfl rfl rfl rfl rfl ?_
      refine wr_nil ?_
      refine wl_skip rfl rfl rfl rfl rfl rfl rfl ?_
      refine wl_x (ox_pick_f rfl rfl rfl) rfl rfl rfl ?_
      refine wl_nil ?_
      refine nx_then ?_
      refine ws_cond_f rfl ?_
      refine ws_exit ?_
      refine nx_then_exit ?_
      refine nx_then_exit ?_
      refine nx_block_exit ?_
      refine nx_meet _ ⟨i1, x, rfl, rfl, rfl, hx, hi1, hi1j, by rw [← hS]; exact (scanUp_stop (.inl (by omega))).symm⟩ (by repeat (first | exact trivial | refine ⟨rfl, ?_⟩))
  · skip
    obtain ⟨i2, x, rfl, rfl, rfl, hx, hi2, hi2j, hu⟩ := hI
    refine ws_cut (fun s h' ms' => ∃ (j2 : Nat) (q : Int), s = prS v a x q ∧ h = h' ∧ ms' = [m0] ∧ q = j2 ∧ j2 ≤ j ∧ i2 ≤ j2 + 2 ∧ j2 = scanDown (fun x => !ltInt x d0[a]!) d0 i2 j) ?_ (fun s h ms hI => ?_)
    · skip
      refine ws_block ?_
      refine ws_loop (fun n s h' ms' => ∃ (j1 : Nat) (q : Int), n = j1 + 1 - i2 ∧ s = prS v a x q ∧ h = h' ∧ ms' = [m0] ∧ q = j1 ∧ j1 ≤ j ∧ i2 ≤ j1 + 2 ∧ scanDown (fun x => !ltInt x d0[a]!) d0 i2 j1 = scanDown (fun x => !ltInt x d0[a]!) d0 i2 j)
        _ _ ⟨j, z, rfl, rfl, rfl, rfl, hz, by omega, by omega, rfl⟩ (by repeat (first | exact trivial | refine ⟨rfl, ?_⟩)) ?_
      rintro n s h' ms' ⟨j1, q, rfl, rfl, rfl, rfl, hq, hj1, hj1i, hS⟩
      refine ws_seq ?_
      refine ws_seq ?_
      refine ws_draw 12 fol (by kernel_rfl) rfl ?_
      simp only [List.take_succ_cons, List.take_zero, List.drop_succ_cons, List.drop_zero, List.take_nil, List.drop_nil]
      refine wr_x (ox_move rfl rfl) rfl rfl ?_
      refine wr_x (ox_move rfl rfl) rfl rfl ?_
      refine wr_x (ox_leq rfl rfl rfl) rfl rfl ?_
      refine wr_x (ox_move rfl rfl) rfl rfl ?_
      refine wr_split (t := 49) rfl (fun hle => ?_) (fun hle => ?_)
      · skip
        refine wr_gx (ox_move rfl rfl) rfl rfl rfl rfl ?_
        refine wr_gx (ox_move rfl rfl) rfl rfl rfl rfl ?_
        first | refine wr_gx (ox_index j1 rfl Try.underlying23 el3 rfl rfl (by omega) (by omega)) rfl rfl rfl rfl ?_ | refine wr_gx (ox_indexR j1 (hO0.rd (.head _)) rfl Try.underlying23 el3 rfl rfl (by omega) (by omega)) rfl rfl rfl rfl ?_
        refine wr_gx (ox_load rfl Try.underlying3 rfl rfl (by first | exact hO0.get (.head _) (by omega))) rfl rfl rfl rfl ?_
        refine wr_gx (ox_move rfl rfl) rfl rfl rfl rfl ?_
        refine wr_gx (ox_move rfl rfl) rfl rfl rfl rfl ?_
        first | refine wr_gx (ox_index a rfl Try.underlying23 el3 rfl rfl (by omega) (by omega)) rfl rfl rfl rfl ?_ | refine wr_gx (ox_indexR a (hO0.rd (.head _)) rfl Try.underlying23 el3 rfl rfl (by omega) (by omega)) rfl rfl rfl rfl ?_
        refine wr_gx (ox_load rfl Try.underlying3 rfl rfl (by first | exact hO0.get (.head _) (by omega))) rfl rfl rfl rfl ?_
        refine wr_nil ?_
        refine wl_gx (ox_call rfl Try.call59 rfl (less_ok _ _ _ _)) rfl rfl rfl rfl rfl rfl ?_
        refine wl_gx (ox_not rfl rfl) rfl rfl rfl rfl rfl rfl ?_
        refine wl_x (ox_pick_t rfl rfl rfl) rfl rfl rfl ?_
        refine wl_nil ?_
        refine nx_then ?_
        refine ws_cond rfl (fun hp => ?_) (fun hp => ?_)
        · skip
          refine ws_skip ?_
          refine nx_then ?_
          refine ws_block ?_
          refine ws_region ?_
          refine wl_x (ox_move rfl rfl) rfl rfl rfl ?_
          refine wl_x (ox_sub rfl rfl rfl (by omega)) rfl rfl rfl ?_
          refine wl_x (ox_assign rfl rfl) rfl rfl rfl ?_
          refine wl_nil ?_
          refine nx_block ?_
          refine nx_round (j1 - 1 + 1 - i2) _ (by omega) ⟨j1 - 1, q - 1, rfl, rfl, rfl, rfl, by omega, by omega, by omega, by rw [← hS]; exact (scanDown_step (p := (fun x => !ltInt x d0[a]!)) (by omega) (by omega) hp).symm⟩ (by repeat (first | exact trivial | refine ⟨rfl, ?_⟩))
        · skip
          refine ws_exit ?_
          refine nx_then_exit ?_
          refine nx_then_exit ?_
          refine nx_block_exit ?_
          refine nx_meet _ ⟨j1, q, rfl, rfl, rfl, hq, hj1, hj1i, by rw [← hS]; exact (scanDown_stop (p := (fun x => !ltInt x d0[a]!)) (.inr hp)).symm⟩ (by repeat (first | exact trivial | refine ⟨rfl, ?_⟩))
      · skip
        refine wr_skip rfl rfl rfl rfl rfl ?_
        refine wr_skip rfl rfl rfl rfl rfl ?_
        refine wr_skip rfl rfl rfl rfl rfl ?_
        refine wr_skip rfl rfl rfl rfl rfl ?_
        refine wr_skip rfl rfl rfl rfl rfl ?_
        refine wr_skip rfl rfl rfl rfl rfl ?_
        refine wr_skip rfl rfl rfl rfl rfl ?_
        refine wr_skip rfl rfl rfl rfl rfl ?_
        refine wr_nil ?_
        refine wl_skip rfl rfl rfl rfl rfl rfl rfl ?_
        refine wl_skip rfl rfl rfl rfl rfl rfl rfl ?_
        refine wl_x (ox_pick_f rfl rfl rfl) rfl rfl rfl ?_
        refine wl_nil ?_
        refine nx_then ?_
        refine ws_cond_f rfl ?_
        refine ws_exit ?_
        refine nx_then_exit ?_
        refine nx_then_exit ?_
        refine nx_block_exit ?_
        refine nx_meet _ ⟨j1, q, rfl, rfl, rfl, hq, hj1, hj1i, by rw [← hS]; exact (scanDown_stop (.inl (by omega))).symm⟩ (by repeat (first | exact trivial | refine ⟨rfl, ?_⟩))
    · skip
      obtain ⟨j2, q, rfl, rfl, rfl, hq, hj2, hj2i, hd2⟩ := hI
      refine ws_seq ?_
      refine ws_seq ?_
      refine ws_region ?_
      refine wl_x (ox_move rfl rfl) rfl rfl rfl ?_
      refine wl_x (ox_move rfl rfl) rfl rfl rfl ?_
      refine wl_x (ox_gtr rfl rfl rfl) rfl rfl rfl ?_
      refine wl_nil ?_
      refine nx_then ?_
      refine ws_if rfl (fun hgt => ?_) (fun hgt => ?_)
      · skip
        refine ws_seq ?_
        refine ws_drawP 12 [false, false, true, true] fol (by kernel_rfl) (by kernel_rfl) (by kernel_rfl) ?_
        refine pz_x rfl rfl rfl rfl (px_move rfl rfl) ?_
        refine pz_x rfl rfl rfl rfl (px_move rfl rfl) ?_
        refine ⟨rfl, ?_⟩
        simp only [zapL, zap, List.cons_append, List.nil_append, List.take_succ_cons, List.take_zero, List.drop_succ_cons, List.drop_zero, List.take_nil, List.drop_nil]
        refine wr_x (ox_move rfl rfl) rfl rfl ?_
        refine wr_x (ox_move rfl rfl) rfl rfl ?_
        refine wr_z rfl rfl rfl ?_
        refine wr_z rfl rfl rfl ?_
        refine wr_x (ox_move rfl rfl) rfl rfl ?_
        refine wr_x (ox_move rfl rfl) rfl rfl ?_
        first | refine wr_x (ox_index a rfl Try.underlying23 el3 rfl rfl (by omega) (by omega)) rfl rfl ?_ | refine wr_x (ox_indexR a (hO0.rd (.head _)) rfl Try.underlying23 el3 rfl rfl (by omega) (by omega)) rfl rfl ?_
        refine wr_x (ox_load rfl Try.underlying3 rfl rfl (by first | exact hO0.get (.head _) (by omega))) rfl rfl ?_
        refine wr_x (ox_move rfl rfl) rfl rfl ?_
        refine wr_x (ox_move rfl rfl) rfl rfl ?_
        first | refine wr_x (ox_index j2 rfl Try.underlying23 el3 rfl rfl (by omega) (by omega)) rfl rfl ?_ | refine wr_x (ox_indexR j2 (hO0.rd (.head _)) rfl Try.underlying23 el3 rfl rfl (by omega) (by omega)) rfl rfl ?_
        refine wr_x (ox_load rfl Try.underlying3 rfl rfl (by first | exact hO0.get (.head _) (by omega))) rfl rfl ?_
        refine wr_nil ?_
        first | refine wl_x (ox_index j2 rfl Try.underlying23 el3 rfl rfl (by omega) (by omega)) rfl rfl rfl ?_ | refine wl_x (ox_indexR j2 (hO0.rd (.head _)) rfl Try.underlying23 el3 rfl rfl (by omega) (by omega)) rfl rfl rfl ?_
        refine wl_storeI 0 _ hO0 rfl el3 rfl rfl rfl (by omega) rfl rfl (fun mhO1 hzhO1 hO1 => ?_)
        first | refine wl_x (ox_index a rfl Try.underlying23 el3 rfl rfl (by omega) (by omega)) rfl rfl rfl ?_ | refine wl_x (ox_indexR a (hO1.rd (.head _)) rfl Try.underlying23 el3 rfl rfl (by omega) (by omega)) rfl rfl rfl ?_
        refine wl_storeI 0 _ hO1 rfl el3 rfl rfl rfl (by omega) rfl rfl (fun mhO2 hzhO2 hO2 => ?_)
        refine wl_nil ?_
        refine nx_q0 ?_
        refine nx_then ?_
        refine ws_seq ?_
        refine ws_region ?_
        refine wl_x (ox_move rfl rfl) rfl rfl rfl ?_
        refine wl_x (ox_assign rfl rfl) rfl rfl rfl ?_
        refine wl_x (ox_assign rfl rfl) rfl rfl rfl ?_
        refine wl_nil ?_
        refine nx_then ?_
        refine ws_ret ?_
        refine nx_then_ret ?_
        have hE : Sort.partition ltInt d a b pivot = (j2, true, swp d0 j2 a) := by
          unfold Sort.partition; simp only [← hd0, ← hi, ← hj, ← hu, ← hd2]; rw [if_pos (by omega)]
        rw [hE]
        exact nx_ret2 rfl rfl rfl (⟨by rw [hq], rfl, mhO2, rfl, hO2⟩)
      · skip
        refine ws_skip ?_
        refine nx_then ?_
        refine ws_seq ?_
        refine ws_drawP 12 [false, false, true, true] fol (by kernel_rfl) (by kernel_rfl) (by kernel_rfl) ?_
        refine pz_x rfl rfl rfl rfl (px_move rfl rfl) ?_
        refine pz_x rfl rfl rfl rfl (px_move rfl rfl) ?_
        refine ⟨rfl, ?_⟩
        simp only [zapL, zap, List.cons_append, List.nil_append, List.take_succ_cons, List.take_zero, List.drop_succ_cons, List.drop_zero, List.take_nil, List.drop_nil]
        refine wr_x (ox_move rfl rfl) rfl rfl ?_
        refine wr_x (ox_move rfl rfl) rfl rfl ?_
        refine wr_z rfl rfl rfl ?_
        refine wr_z rfl rfl rfl ?_
        refine wr_x (ox_move rfl rfl) rfl rfl ?_
        refine wr_x (ox_move rfl rfl) rfl rfl ?_
        first | refine wr_x (ox_index j2 rfl Try.underlying23 el3 rfl rfl (by omega) (by omega)) rfl rfl ?_ | refine wr_x (ox_indexR j2 (hO0.rd (.head _)) rfl Try.underlying23 el3 rfl rfl (by omega) (by omega)) rfl rfl ?_
        refine wr_x (ox_load rfl Try.underlying3 rfl rfl (by first | exact hO0.get (.head _) (by omega))) rfl rfl ?_
        refine wr_x (ox_move rfl rfl) rfl rfl ?_
        refine wr_x (ox_move rfl rfl) rfl rfl ?_
        first | refine wr_x (ox_index i2 rfl Try.underlying23 el3 rfl rfl (by omega) (by omega)) rfl rfl ?_ | refine wr_x (ox_indexR i2 (hO0.rd (.head _)) rfl Try.underlying23 el3 rfl rfl (by omega) (by omega)) rfl rfl ?_
        refine wr_x (ox_load rfl Try.underlying3 rfl rfl (by first | exact hO0.get (.head _) (by omega))) rfl rfl ?_
        refine wr_nil ?_
        first | refine wl_x (ox_index i2 rfl Try.underlying23 el3 rfl rfl (by omega) (by omega)) rfl rfl rfl ?_ | refine wl_x (ox_indexR i2 (hO0.rd (.head _)) rfl Try.underlying23 el3 rfl rfl (by omega) (by omega)) rfl rfl rfl ?_
        refine wl_storeI 0 _ hO0 rfl el3 rfl rfl rfl (by omega) rfl rfl (fun mhO1 hzhO1 hO1 => ?_)
        first | refine wl_x (ox_index j2 rfl Try.underlying23 el3 rfl rfl (by omega) (by omega)) rfl rfl rfl ?_ | refine wl_x (ox_indexR j2 (hO1.rd (.head _)) rfl Try.underlying23 el3 rfl rfl (by omega) (by omega)) rfl rfl rfl ?_
        refine wl_storeI 0 _ hO1 rfl el3 rfl rfl rfl (by omega) rfl rfl (fun mhO2 hzhO2 hO2 => ?_)
        refine wl_nil ?_
        refine nx_q0 ?_
        refine nx_then ?_
        refine ws_seq ?_
        refine ws_region ?_
        refine wl_x (ox_move rfl rfl) rfl rfl rfl ?_
        refine wl_x (ox_add rfl rfl rfl (by omega)) rfl rfl rfl ?_
        refine wl_x (ox_assign rfl rfl) rfl rfl rfl ?_
        refine wl_nil ?_
        refine nx_then ?_
        refine ws_seq ?_
        refine ws_region ?_
        refine wl_x (ox_move rfl rfl) rfl rfl rfl ?_
        refine wl_x (ox_sub rfl rfl rfl (by omega)) rfl rfl rfl ?_
        refine wl_x (ox_assign rfl rfl) rfl rfl rfl ?_
        refine wl_nil ?_
        refine nx_then ?_
        have hE : Sort.partition ltInt d a b pivot = ((partLoop ltInt a (i2 + 1) (j2 - 1) (swp d0 i2 j2)).1, false, swp (partLoop ltInt a (i2 + 1) (j2 - 1) (swp d0 i2 j2)).2 (partLoop ltInt a (i2 + 1) (j2 - 1) (swp d0 i2 j2)).1 a) := by
          unfold Sort.partition; simp only [← hd0, ← hi, ← hj, ← hu, ← hd2]; rw [if_neg (by omega)]
        rw [hE]
        clear hE
        generalize hF : partLoop ltInt a (i2 + 1) (j2 - 1) (swp d0 i2 j2) = F
        refine ws_cut (fun s h' ms' => ∃ (jj : Nat) (q : Int) (d' : Array Int) (m : Hp), s = [(0, v), (1, .int .i64 a), (11, .int .i64 q)] ∧ h = h' ∧ ms' = [m] ∧ q = jj ∧ jj < b ∧ OI m v d' ∧ d'.size = d.size ∧ F = (jj, d')) ?_ (fun s h ms hI => ?_)
        · skip
          refine ws_block ?_
          refine ws_loop (fun n s h' ms' => ∃ (i j : Nat) (y z : Int) (d' : Array Int) (m : Hp), n = j + 1 - i ∧ s = prS v a y z ∧ h = h' ∧ ms' = [m] ∧ y = i ∧ z = j ∧ a < i ∧ i ≤ j + 2 ∧ j < b ∧ OI m v d' ∧ d'.size = d.size ∧ partLoop ltInt a i j d' = F)
            _ _ ⟨i2 + 1, j2 - 1, x + 1, q - 1, _, mhO2, rfl, rfl, rfl, rfl, by omega, by omega, by omega, by omega, by omega, hO2, by omega, hF⟩ (by repeat (first | exact trivial | refine ⟨rfl, ?_⟩)) ?_
          clear hd0 hy hz hu hd2 hF hO0 hO1 hO2 hds
          rintro n s h' ms' ⟨i, j, y, z, d0, m0, rfl, rfl, rfl, rfl, hy, hz, hai, hij, hjb, hO0, hds, hR⟩
          refine ws_block ?_
          refine ws_cut (fun s h' ms' => ∃ (i2 : Nat) (x : Int), s = prS v a x z ∧ h = h' ∧ ms' = [m0] ∧ x = i2 ∧ i ≤ i2 ∧ i2 ≤ j + 2 ∧ i2 = scanUp (fun x => ltInt x d0[a]!) d0 j i) ?_ (fun s h ms hI => ?_)
          · skip
            refine ws_block ?_
            refine ws_loop (fun n s h' ms' => ∃ (i1 : Nat) (x : Int), n = j + 1 - i1 ∧ s = prS v a x z ∧ h = h' ∧ ms' = [m0] ∧ x = i1 ∧ i ≤ i1 ∧ i1 ≤ j + 2 ∧ scanUp (fun x => ltInt x d0[a]!) d0 j i1 = scanUp (fun x => ltInt x d0[a]!) d0 j i)
              _ _ ⟨i, y, rfl, rfl, rfl, rfl, hy, by omega, by omega, rfl⟩ (by repeat (first | exact trivial | refine ⟨rfl, ?_⟩)) ?_
            rintro n s h' ms' ⟨i1, x, rfl, rfl, rfl, rfl, hx, hi1, hi1j, hS⟩
            refine ws_seq ?_
            refine ws_seq ?_
            refine ws_draw 12 fol (by kernel_rfl) rfl ?_
            simp only [List.take_succ_cons, List.take_zero, List.drop_succ_cons, List.drop_zero, List.take_nil, List.drop_nil]
            refine wr_x (ox_move rfl rfl) rfl rfl ?_
            refine wr_x (ox_move rfl rfl) rfl rfl ?_
            refine wr_x (ox_leq rfl rfl rfl) rfl rfl ?_
            refine wr_x (ox_move rfl rfl) rfl rfl ?_
            refine wr_split (t := 102) rfl (fun hle => ?_) (fun hle => ?_)
            · skip
              refine wr_gx (ox_move rfl rfl) rfl rfl rfl rfl ?_
              refine wr_gx (ox_move rfl rfl) rfl rfl rfl rfl ?_
              first | refine wr_gx (ox_index i1 rfl Try.underlying23 el3 rfl rfl (by omega) (by omega)) rfl rfl rfl rfl ?_ | refine wr_gx (ox_indexR i1 (hO0.rd (.head _)) rfl Try.underlying23 el3 rfl rfl (by omega) (by omega)) rfl rfl rfl rfl ?_
              refine wr_gx (ox_load rfl Try.underlying3 rfl rfl (by first | exact hO0.get (.head _) (by omega))) rfl rfl rfl rfl ?_
              refine wr_gx (ox_move rfl rfl) rfl rfl rfl rfl ?_
              refine wr_gx (ox_move rfl rfl) rfl rfl rfl rfl ?_
              first | refine wr_gx (ox_index a rfl Try.underlying23 el3 rfl rfl (by omega) (by omega)) rfl rfl rfl rfl ?_ | refine wr_gx (ox_indexR a (hO0.rd (.head _)) rfl Try.underlying23 el3 rfl rfl (by omega) (by omega)) rfl rfl rfl rfl ?_
              refine wr_gx (ox_load rfl Try.underlying3 rfl rfl (by first | exact hO0.get (.head _) (by omega))) rfl rfl rfl rfl ?_
              refine wr_nil ?_
              refine wl_gx (ox_call rfl Try.call59 rfl (less_ok _ _ _ _)) rfl rfl rfl rfl rfl rfl ?_
              refine wl_x (ox_pick_t rfl rfl rfl) rfl rfl rfl ?_
              refine wl_nil ?_
              refine nx_then ?_
              refine ws_cond rfl (fun hp => ?_) (fun hp => ?_)
              · skip
                refine ws_skip ?_
                refine nx_then ?_
                refine ws_block ?_
                refine ws_region ?_
                refine wl_x (ox_move rfl rfl) rfl rfl rfl ?_
                refine wl_x (ox_add rfl rfl rfl (by omega)) rfl rfl rfl ?_
                refine wl_x (ox_assign rfl rfl) rfl rfl rfl ?_
                refine wl_nil ?_
                refine nx_block ?_
                refine nx_round (j + 1 - (i1 + 1)) _ (by omega) ⟨i1 + 1, x + 1, rfl, rfl, rfl, rfl, by omega, by omega, by omega, by rw [← hS]; exact (scanUp_step (p := (fun x => ltInt x d0[a]!)) (by omega) hp).symm⟩ (by repeat (first | exact trivial | refine ⟨rfl, ?_⟩))
              · skip
                refine ws_exit ?_
                refine nx_then_exit ?_
                refine nx_then_exit ?_
                refine nx_block_exit ?_
                refine nx_meet _ ⟨i1, x, rfl, rfl, rfl, hx, hi1, hi1j, by rw [← hS]; exact (scanUp_stop (p := (fun x => ltInt x d0[a]!)) (.inr hp)).symm⟩ (by repeat (first | exact trivial | refine ⟨rfl, ?_⟩))
            · skip
              refine wr_skip rfl rfl rfl rfl rfl ?_
              refine wr_skip rfl rfl rfl rfl rfl ?_
              refine wr_skip rfl rfl rfl rfl rfl ?_
              refine wr_skip rfl rfl rfl rfl rfl ?_
              refine wr_skip rfl rfl rfl rfl rfl ?_
              refine wr_skip rfl rfl rfl rfl rfl ?_
              refine wr_skip rfl rfl rfl rfl rfl ?_
              refine wr_skip rfl rfl rfl rfl rfl ?_
              refine wr_nil ?_
              refine wl_skip rfl rfl rfl rfl rfl rfl rfl ?_
              refine wl_x (ox_pick_f rfl rfl rfl) rfl rfl rfl ?_
              refine wl_nil ?_
              refine nx_then ?_
              refine ws_cond_f rfl ?_
              refine ws_exit ?_
              refine nx_then_exit ?_
              refine nx_then_exit ?_
              refine nx_block_exit ?_
              refine nx_meet _ ⟨i1, x, rfl, rfl, rfl, hx, hi1, hi1j, by rw [← hS]; exact (scanUp_stop (.inl (by omega))).symm⟩ (by repeat (first | exact trivial | refine ⟨rfl, ?_⟩))
          · skip
            obtain ⟨i2, x, rfl, rfl, rfl, hx, hi2, hi2j, hu⟩ := hI
            refine ws_cut (fun s h' ms' => ∃ (j2 : Nat) (q : Int), s = prS v a x q ∧ h = h' ∧ ms' = [m0] ∧ q = j2 ∧ j2 ≤ j ∧ i2 ≤ j2 + 2 ∧ j2 = scanDown (fun x => !ltInt x d0[a]!) d0 i2 j) ?_ (fun s h ms hI => ?_)
            · skip
              refine ws_block ?_
              refine ws_loop (fun n s h' ms' => ∃ (j1 : Nat) (q : Int), n = j1 + 1 - i2 ∧ s = prS v a x q ∧ h = h' ∧ ms' = [m0] ∧ q = j1 ∧ j1 ≤ j ∧ i2 ≤ j1 + 2 ∧ scanDown (fun x => !ltInt x d0[a]!) d0 i2 j1 = scanDown (fun x => !ltInt x d0[a]!) d0 i2 j)
                _ _ ⟨j, z, rfl, rfl, rfl, rfl, hz, by omega, by omega, rfl⟩ (by repeat (first | exact trivial | refine ⟨rfl, ?_⟩)) ?_
              rintro n s h' ms' ⟨j1, q, rfl, rfl, rfl, rfl, hq, hj1, hj1i, hS⟩
              refine ws_seq ?_
              refine ws_seq ?_
              refine ws_draw 12 fol (by kernel_rfl) rfl ?_
              simp only [List.take_succ_cons, List.take_zero, List.drop_succ_cons, List.drop_zero, List.take_nil, List.drop_nil]
              refine wr_x (ox_move rfl rfl) rfl rfl ?_
              refine wr_x (ox_move rfl rfl) rfl rfl ?_
              refine wr_x (ox_leq rfl rfl rfl) rfl rfl ?_
              refine wr_x (ox_move rfl rfl) rfl rfl ?_
              refine wr_split (t := 118) rfl (fun hle => ?_) (fun hle => ?_)
              · skip
                refine wr_gx (ox_move rfl rfl) rfl rfl rfl rfl ?_
                refine wr_gx (ox_move rfl rfl) rfl rfl rfl rfl ?_
                first | refine wr_gx (ox_index j1 rfl Try.underlying23 el3 rfl rfl (by omega) (by omega)) rfl rfl rfl rfl ?_ | refine wr_gx (ox_indexR j1 (hO0.rd (.head _)) rfl Try.underlying23 el3 rfl rfl (by omega) (by omega)) rfl rfl rfl rfl ?_
                refine wr_gx (ox_load rfl Try.underlying3 rfl rfl (by first | exact hO0.get (.head _) (by omega))) rfl rfl rfl rfl ?_
                refine wr_gx (ox_move rfl rfl) rfl rfl rfl rfl ?_
                refine wr_gx (ox_move rfl rfl) rfl rfl rfl rfl ?_
                first | refine wr_gx (ox_index a rfl Try.underlying23 el3 rfl rfl (by omega) (by omega)) rfl rfl rfl rfl ?_ | refine wr_gx (ox_indexR a (hO0.rd (.head _)) rfl Try.underlying23 el3 rfl rfl (by omega) (by omega)) rfl rfl rfl rfl ?_
                refine wr_gx (ox_load rfl Try.underlying3 rfl rfl (by first | exact hO0.get (.head _) (by omega))) rfl rfl rfl rfl ?_
                refine wr_nil ?_
                refine wl_gx (ox_call rfl Try.call59 rfl (less_ok _ _ _ _)) rfl rfl rfl rfl rfl rfl ?_
                refine wl_gx (ox_not rfl rfl) rfl rfl rfl rfl rfl rfl ?_
                refine wl_x (ox_pick_t rfl rfl rfl) rfl rfl rfl ?_
                refine wl_nil ?_
                refine nx_then ?_
                refine ws_cond rfl (fun hp => ?_) (fun hp => ?_)
                · skip
                  refine ws_skip ?_
                  refine nx_then ?_
                  refine ws_block ?_
                  refine ws_region ?_
                  refine wl_x (ox_move rfl rfl) rfl rfl rfl ?_
                  refine wl_x (ox_sub rfl rfl rfl (by omega)) rfl rfl rfl ?_
                  refine wl_x (ox_assign rfl rfl) rfl rfl rfl ?_
                  refine wl_nil ?_
                  refine nx_block ?_
                  refine nx_round (j1 - 1 + 1 - i2) _ (by omega) ⟨j1 - 1, q - 1, rfl, rfl, rfl, rfl, by omega, by omega, by omega, by rw [← hS]; exact (scanDown_step (p := (fun x => !ltInt x d0[a]!)) (by omega) (by omega) hp).symm⟩ (by repeat (first | exact trivial | refine ⟨rfl, ?_⟩))
                · skip
                  refine ws_exit ?_
                  refine nx_then_exit ?_
                  refine nx_then_exit ?_
                  refine nx_block_exit ?_
                  refine nx_meet _ ⟨j1, q, rfl, rfl, rfl, hq, hj1, hj1i, by rw [← hS]; exact (scanDown_stop (p := (fun x => !ltInt x d0[a]!)) (.inr hp)).symm⟩ (by repeat (first | exact trivial | refine ⟨rfl, ?_⟩))
              · skip
                refine wr_skip rfl rfl rfl rfl rfl ?_
                refine wr_skip rfl rfl rfl rfl rfl ?_
                refine wr_skip rfl rfl rfl rfl rfl ?_
                refine wr_skip rfl rfl rfl rfl rfl ?_
                refine wr_skip rfl rfl rfl rfl rfl ?_
                refine wr_skip rfl rfl rfl rfl rfl ?_
                refine wr_skip rfl rfl rfl rfl rfl ?_
                refine wr_skip rfl rfl rfl rfl rfl ?_
                refine wr_nil ?_
                refine wl_skip rfl rfl rfl rfl rfl rfl rfl ?_
                refine wl_skip rfl rfl rfl rfl rfl rfl rfl ?_
                refine wl_x (ox_pick_f rfl rfl rfl) rfl rfl rfl ?_
                refine wl_nil ?_
                refine nx_then ?_
                refine ws_cond_f rfl ?_
                refine ws_exit ?_
                refine nx_then_exit ?_
                refine nx_then_exit ?_
                refine nx_block_exit ?_
                refine nx_meet _ ⟨j1, q, rfl, rfl, rfl, hq, hj1, hj1i, by rw [← hS]; exact (scanDown_stop (.inl (by omega))).symm⟩ (by repeat (first | exact trivial | refine ⟨rfl, ?_⟩))
            · skip
              obtain ⟨j2, q, rfl, rfl, rfl, hq, hj2, hj2i, hd2⟩ := hI
              refine ws_seq ?_
              refine ws_seq ?_
              refine ws_region ?_
              refine wl_x (ox_move rfl rfl) rfl rfl rfl ?_
              refine wl_x (ox_move rfl rfl) rfl rfl rfl ?_
              refine wl_x (ox_gtr rfl rfl rfl) rfl rfl rfl ?_
              refine wl_nil ?_
              refine nx_then ?_
              refine ws_if rfl (fun hgt => ?_) (fun hgt => ?_)
              · skip
                refine ws_exit ?_
                refine nx_then_exit ?_
                refine nx_block_out rfl ?_
                refine nx_then_exit ?_
                refine nx_block_exit ?_
                have hE : partLoop ltInt a i j d0 = (j2, d0) := by unfold partLoop; simp only [← hu, ← hd2]; rw [if_pos (by omega)]
                refine nx_meet _ ⟨j2, q, d0, m0, rfl, rfl, rfl, hq, by omega, hO0, hds, by rw [← hR, hE]⟩ (by repeat (first | exact trivial | refine ⟨rfl, ?_⟩))
              · skip
                refine ws_skip ?_
                refine nx_then ?_
                refine ws_seq ?_
                refine ws_drawP 12 [false, false, true, true] fol (by kernel_rfl) (by kernel_rfl) (by kernel_rfl) ?_
                refine pz_x rfl rfl rfl rfl (px_move rfl rfl) ?_
                refine pz_x rfl rfl rfl rfl (px_move rfl rfl) ?_
                refine ⟨rfl, ?_⟩
                simp only [zapL, zap, List.cons_append, List.nil_append, List.take_succ_cons, List.take_zero, List.drop_succ_cons, List.drop_zero, List.take_nil, List.drop_nil]
                refine wr_x (ox_move rfl rfl) rfl rfl ?_
                refine wr_x (ox_move rfl rfl) rfl rfl ?_
                refine wr_z rfl rfl rfl ?_
                refine wr_z rfl rfl rfl ?_
                refine wr_x (ox_move rfl rfl) rfl rfl ?_
                refine wr_x (ox_move rfl rfl) rfl rfl ?_
                first | refine wr_x (ox_index j2 rfl Try.underlying23 el3 rfl rfl (by omega) (by omega)) rfl rfl ?_ | refine wr_x (ox_indexR j2 (hO0.rd (.head _)) rfl Try.underlying23 el3 rfl rfl (by omega) (by omega)) rfl rfl ?_
                refine wr_x (ox_load rfl Try.underlying3 rfl rfl (by first | exact hO0.get (.head _) (by omega))) rfl rfl ?_
                refine wr_x (ox_move rfl rfl) rfl rfl ?_
                refine wr_x (ox_move rfl rfl) rfl rfl ?_
                first | refine wr_x (ox_index i2 rfl Try.underlying23 el3 rfl rfl (by omega) (by omega)) rfl rfl ?_ | refine wr_x (ox_indexR i2 (hO0.rd (.head _)) rfl Try.underlying23 el3 rfl rfl (by omega) (by omega)) rfl rfl ?_
                refine wr_x (ox_load rfl Try.underlying3 rfl rfl (by first | exact hO0.get (.head _) (by omega))) rfl rfl ?_
                refine wr_nil ?_
                first | refine wl_x (ox_index i2 rfl Try.underlying23 el3 rfl rfl (by omega) (by omega)) rfl rfl rfl ?_ | refine wl_x (ox_indexR i2 (hO0.rd (.head _)) rfl Try.underlying23 el3 rfl rfl (by omega) (by omega)) rfl rfl rfl ?_
                refine wl_storeI 0 _ hO0 rfl el3 rfl rfl rfl (by omega) rfl rfl (fun mhO1 hzhO1 hO1 => ?_)
                first | refine wl_x (ox_index j2 rfl Try.underlying23 el3 rfl rfl (by omega) (by omega)) rfl rfl rfl ?_ | refine wl_x (ox_indexR j2 (hO1.rd (.head _)) rfl Try.underlying23 el3 rfl rfl (by omega) (by omega)) rfl rfl rfl ?_
                refine wl_storeI 0 _ hO1 rfl el3 rfl rfl rfl (by omega) rfl rfl (fun mhO2 hzhO2 hO2 => ?_)
                refine wl_nil ?_
                refine nx_q0 ?_
                refine nx_then ?_
                refine ws_seq ?_
                refine ws_region ?_
                refine wl_x (ox_move rfl rfl) rfl rfl rfl ?_
                refine wl_x (ox_add rfl rfl rfl (by omega)) rfl rfl rfl ?_
                refine wl_x (ox_assign rfl rfl) rfl rfl rfl ?_
                refine wl_nil ?_
                refine nx_then ?_
                refine ws_region ?_
                refine wl_x (ox_move rfl rfl) rfl rfl rfl ?_
                refine wl_x (ox_sub rfl rfl rfl (by omega)) rfl rfl rfl ?_
                refine wl_x (ox_assign rfl rfl) rfl rfl rfl ?_
                refine wl_nil ?_
                refine nx_block ?_
                refine nx_round ((j2 - 1) + 1 - (i2 + 1)) _ (by omega) ⟨i2 + 1, j2 - 1, x + 1, q - 1, _, mhO2, rfl, rfl, rfl, rfl, by omega, by omega, by omega, by omega, by omega, hO2, by omega, ?_⟩ (by repeat (first | exact trivial | refine ⟨rfl, ?_⟩))
                rw [← hR]; conv => rhs; unfold partLoop
                simp only [← hu, ← hd2]
                rw [if_neg (by omega), dif_pos (by omega)]; rfl
        · skip
          obtain ⟨jj, q, d0, m0, rfl, rfl, rfl, hq, hjj, hO0, hds, rfl⟩ := hI
          refine ws_seq ?_
          refine ws_drawP 12 [false, false, true, true] fol (by kernel_rfl) (by kernel_rfl) (by kernel_rfl) ?_
          refine pz_x rfl rfl rfl rfl (px_move rfl rfl) ?_
          refine pz_x rfl rfl rfl rfl (px_move rfl rfl) ?_
          refine ⟨rfl, ?_⟩
          simp only [zapL, zap, List.cons_append, List.nil_append, List.take_succ_cons, List.take_zero, List.drop_succ_cons, List.drop_zero, List.take_nil, List.drop_nil]
          refine wr_x (ox_move rfl rfl) rfl rfl ?_
          refine wr_x (ox_move rfl rfl) rfl rfl ?_
          refine wr_z rfl rfl rfl ?_
          refine wr_z rfl rfl rfl ?_
          refine wr_x (ox_move rfl rfl) rfl rfl ?_
          refine wr_x (ox_move rfl rfl) rfl rfl ?_
          first | refine wr_x (ox_index a rfl Try.underlying23 el3 rfl rfl (by omega) (by omega)) rfl rfl ?_ | refine wr_x (ox_indexR a (hO0.rd (.head _)) rfl Try.underlying23 el3 rfl rfl (by omega) (by omega)) rfl rfl ?_
          refine wr_x (ox_load rfl Try.underlying3 rfl rfl (by first | exact hO0.get (.head _) (by omega))) rfl rfl ?_
          refine wr_x (ox_move rfl rfl) rfl rfl ?_
          refine wr_x (ox_move rfl rfl) rfl rfl ?_
          first | refine wr_x (ox_index jj rfl Try.underlying23 el3 rfl rfl (by omega) (by omega)) rfl rfl ?_ | refine wr_x (ox_indexR jj (hO0.rd (.head _)) rfl Try.underlying23 el3 rfl rfl (by omega) (by omega)) rfl rfl ?_
          refine wr_x (ox_load rfl Try.underlying3 rfl rfl (by first | exact hO0.get (.head _) (by omega))) rfl rfl ?_
          refine wr_nil ?_
          first | refine wl_x (ox_index jj rfl Try.underlying23 el3 rfl rfl (by omega) (by omega)) rfl rfl rfl ?_ | refine wl_x (ox_indexR jj (hO0.rd (.head _)) rfl Try.underlying23 el3 rfl rfl (by omega) (by omega)) rfl rfl rfl ?_
          refine wl_storeI 0 _ hO0 rfl el3 rfl rfl rfl (by omega) rfl rfl (fun mhO1 hzhO1 hO1 => ?_)
          first | refine wl_x (ox_index a rfl Try.underlying23 el3 rfl rfl (by omega) (by omega)) rfl rfl rfl ?_ | refine wl_x (ox_indexR a (hO1.rd (.head _)) rfl Try.underlying23 el3 rfl rfl (by omega) (by omega)) rfl rfl rfl ?_
          refine wl_storeI 0 _ hO1 rfl el3 rfl rfl rfl (by omega) rfl rfl (fun mhO2 hzhO2 hO2 => ?_)
          refine wl_nil ?_
          refine nx_q0 ?_
          refine nx_then ?_
          refine ws_seq ?_
          refine ws_region ?_
          refine wl_x (ox_move rfl rfl) rfl rfl rfl ?_
          refine wl_x (ox_assign rfl rfl) rfl rfl rfl ?_
          refine wl_x (ox_assign rfl rfl) rfl rfl rfl ?_
          refine wl_nil ?_
          refine nx_then ?_
          refine ws_ret ?_
          exact nx_ret2 rfl rfl rfl (⟨by rw [hq], rfl, mhO2, rfl, hO2⟩)
end Go.Proofs.Ythdkhnjnhhofgaa

/- Walks: the library's sort at integers: the pivot, the patterns. -/
set_option linter.unusedSimpArgs false
set_option linter.unusedVariables false
set_option maxRecDepth 100000
namespace Go.Proofs.Ythdkhnjnhhofgaa
open Go.Eng Go.RowKit Go.Sort

/-- What stands behind a look at the order of two: the count of exchanges. -/
def Cnt (h : Hp) (m : Hp) (g : Nat) (sw : Nat) : Hp → List Hp → Prop := fun h' ms' => h = h' ∧ ms' = [Blk g 3 [.int .i64 sw], m]

theorem order2_ok (d : Array Int) (v : Value) (m : Hp) (hO : OI m v d) (a b sw g : Nat) (ha : a < d.size) (hb : b < d.size) (hsw : sw ≤ 1000) (hsz : d.size ≤ 2305843009213693951) (h : Hp) {a' b' : Int} (ea : a' = a) (eb : b' = b) :
    FnT Try.prog 73 #[v, .int .i64 a', .int .i64 b', .pointer (some ⟨g, 0, none⟩)] h [Blk g 3 [.int .i64 sw], m] (fun r h' ms' => r = .tuple #[.int .i64 (order2 ltInt d a b sw).1, .int .i64 (order2 ltInt d a b sw).2.1] ∧ Cnt h m g (order2 ltInt d a b sw).2.2 h' ms') := by
  subst ea eb
  refine fn_enter Try.func73 Try.ntmps73 rfl rfl (fun w0 hw0 => ?_)
  simp only [argS]
  refine ws_seq ?_
  refine ws_region ?_
  refine wl_x (ox_assign rfl rfl) rfl rfl rfl ?_
  refine wl_x (ox_assign rfl rfl) rfl rfl rfl ?_
  refine wl_nil ?_
  refine nx_then ?_
  refine ws_seq ?_
  refine ws_seq ?_
  refine ws_draw 8 fol (by kernel_rfl) rfl ?_
  simp only [List.take_succ_cons, List.take_zero, List.drop_succ_cons, List.drop_zero, List.take_nil, List.drop_nil]
  refine wr_x (ox_move rfl rfl) rfl rfl ?_
  refine wr_x (ox_move rfl rfl) rfl rfl ?_
  first | refine wr_x (ox_index b rfl Try.underlying23 el3 rfl rfl (by omega) (by omega)) rfl rfl ?_ | refine wr_x (ox_indexR b (hO.rd (.tail _ (.head _))) rfl Try.underlying23 el3 rfl rfl (by omega) (by omega)) rfl rfl ?_
  refine wr_x (ox_load rfl Try.underlying3 rfl rfl (by first | exact hO.get (.tail _ (.head _)) (by omega))) rfl rfl ?_
  refine wr_x (ox_move rfl rfl) rfl rfl ?_
  refine wr_x (ox_move rfl rfl) rfl rfl ?_
  first | refine wr_x (ox_index a rfl Try.underlying23 el3 rfl rfl (by omega) (by omega)) rfl rfl ?_ | refine wr_x (ox_indexR a (hO.rd (.tail _ (.head _))) rfl Try.underlying23 el3 rfl rfl (by omega) (by omega)) rfl rfl ?_
  refine wr_x (ox_load rfl Try.underlying3 rfl rfl (by first | exact hO.get (.tail _ (.head _)) (by omega))) rfl rfl ?_
  refine wr_nil ?_
  refine wl_x (ox_call rfl Try.call59 rfl (less_ok _ _ _ _)) rfl rfl rfl ?_
  refine wl_nil ?_
  refine nx_then ?_
  refine ws_cond rfl (fun hl => ?_) (fun hl => ?_)
  · skip
    refine ws_seq ?_
    refine ws_region ?_
    refine wl_x (ox_move rfl rfl) rfl rfl rfl ?_
    refine wl_x (ox_nilCheck rfl rfl) rfl rfl rfl ?_
    refine wl_x (ox_load rfl Try.underlying3 rfl rfl (by first | exact Cell.blk0 0 rfl rfl | exact Cell.blk0 1 rfl rfl | exact Cell.blk0 2 rfl rfl | exact Cell.blk0 3 rfl rfl | exact Cell.blk0 4 rfl rfl | exact hO.get (.tail _ (.head _)) (by omega))) rfl rfl rfl ?_
    refine wl_x (ox_add rfl rfl rfl (by omega)) rfl rfl rfl ?_
    refine wl_x (ox_nilCheck rfl rfl) rfl rfl rfl ?_
    first | refine wl_storeAt 0 0 rfl el3 rfl rfl (by first | rfl | exact Rd.one ‹_› | exact (RdL.rd ‹_›).one) rfl rfl (by first | decide | (simp; done) | exact of_decide_eq_true rfl | (simp; omega)) rfl rfl ?_ | refine wl_storeAt 1 0 rfl el3 rfl rfl (by first | rfl | exact Rd.one ‹_› | exact (RdL.rd ‹_›).one) rfl rfl (by first | decide | (simp; done) | exact of_decide_eq_true rfl | (simp; omega)) rfl rfl ?_ | refine wl_storeAt 2 0 rfl el3 rfl rfl (by first | rfl | exact Rd.one ‹_› | exact (RdL.rd ‹_›).one) rfl rfl (by first | decide | (simp; done) | exact of_decide_eq_true rfl | (simp; omega)) rfl rfl ?_ | refine wl_storeAt 3 0 rfl el3 rfl rfl (by first | rfl | exact Rd.one ‹_› | exact (RdL.rd ‹_›).one) rfl rfl (by first | decide | (simp; done) | exact of_decide_eq_true rfl | (simp; omega)) rfl rfl ?_ | refine wl_storeAt 4 0 rfl el3 rfl rfl (by first | rfl | exact Rd.one ‹_› | exact (RdL.rd ‹_›).one) rfl rfl (by first | decide | (simp; done) | exact of_decide_eq_true rfl | (simp; omega)) rfl rfl ?_
    refine wl_nil ?_
    refine nx_then ?_
    refine ws_seq ?_
    refine ws_region ?_
    refine wl_x (ox_move rfl rfl) rfl rfl rfl ?_
    refine wl_x (ox_move rfl rfl) rfl rfl rfl ?_
    refine wl_x (ox_assign rfl rfl) rfl rfl rfl ?_
    refine wl_x (ox_assign rfl rfl) rfl rfl rfl ?_
    refine wl_nil ?_
    refine nx_then ?_
    refine ws_ret ?_
    refine nx_then_ret ?_
    have hE : order2 ltInt d a b sw = (b, a, sw + 1) := by unfold order2; rw [if_pos hl]
    rw [hE]
    exact nx_ret2 rfl rfl rfl (⟨rfl, rfl, rfl⟩)
  · skip
    refine ws_skip ?_
    refine nx_then ?_
    refine ws_seq ?_
    refine ws_region ?_
    refine wl_x (ox_move rfl rfl) rfl rfl rfl ?_
    refine wl_x (ox_move rfl rfl) rfl rfl rfl ?_
    refine wl_x (ox_assign rfl rfl) rfl rfl rfl ?_
    refine wl_x (ox_assign rfl rfl) rfl rfl rfl ?_
    refine wl_nil ?_
    refine nx_then ?_
    refine ws_ret ?_
    have hE : order2 ltInt d a b sw = (a, b, sw) := by unfold order2; rw [if_neg (by simp [hl])]
    rw [hE]
    exact nx_ret2 rfl rfl rfl (⟨rfl, rfl, rfl⟩)

theorem order2_lt {d : Array Int} {a b sw : Nat} {n : Nat} (ha : a < n) (hb : b < n) : (order2 ltInt d a b sw).1 < n ∧ (order2 ltInt d a b sw).2.1 < n ∧ (order2 ltInt d a b sw).2.2 ≤ sw + 1 := by
  unfold order2; split
  · exact ⟨hb, ha, Nat.le_refl _⟩
  · exact ⟨ha, hb, Nat.le_succ _⟩

theorem median_ok (d : Array Int) (v : Value) (m : Hp) (hO : OI m v d) (a b c sw g : Nat) (ha : a < d.size) (hb : b < d.size) (hc : c < d.size) (hsw : sw ≤ 100) (hsz : d.size ≤ 2305843009213693951) (h : Hp) {a' b' c' : Int} (ea : a' = a) (eb : b' = b) (ec : c' = c) :
    FnT Try.prog 69 #[v, .int .i64 a', .int .i64 b', .int .i64 c', .pointer (some ⟨g, 0, none⟩)] h [Blk g 3 [.int .i64 sw], m] (fun r h' ms' => r = .int .i64 (median ltInt d a b c sw).1 ∧ Cnt h m g (median ltInt d a b c sw).2 h' ms') := by
  subst ea eb ec
  have l1 := order2_lt (d := d) (sw := sw) ha hb
  have l2 := order2_lt (d := d) (sw := (order2 ltInt d a b sw).2.2) l1.2.1 hc
  have hE : median ltInt d a b c sw = ((order2 ltInt d (order2 ltInt d a b sw).1 (order2 ltInt d (order2 ltInt d a b sw).2.1 c (order2 ltInt d a b sw).2.2).1 (order2 ltInt d (order2 ltInt d a b sw).2.1 c (order2 ltInt d a b sw).2.2).2.2).2.1, (order2 ltInt d (order2 ltInt d a b sw).1 (order2 ltInt d (order2 ltInt d a b sw).2.1 c (order2 ltInt d a b sw).2.2).1 (order2 ltInt d (order2 ltInt d a b sw).2.1 c (order2 ltInt d a b sw).2.2).2.2).2.2) := rfl
  rw [hE]
  refine fn_enter Try.func69 Try.ntmps69 rfl rfl (fun w0 hw0 => ?_)
  simp only [argS]
  refine ws_seq ?_
  refine ws_region ?_
  refine wl_x (ox_assign rfl rfl) rfl rfl rfl ?_
  refine wl_nil ?_
  refine nx_then ?_
  refine ws_seq ?_
  refine ws_region ?_
  refine wl_x (ox_move rfl rfl) rfl rfl rfl ?_
  refine wl_x (ox_move rfl rfl) rfl rfl rfl ?_
  refine wl_x (ox_move rfl rfl) rfl rfl rfl ?_
  refine wl_x (ox_move rfl rfl) rfl rfl rfl ?_
  refine wl_call_ (pre := [Blk g 3 [.int .i64 sw], m]) rfl Try.call73 rfl (order2_ok d v m hO a b sw g ha hb (by omega) hsz _ rfl rfl) rfl rfl rfl rfl (fun _ _ _ _ hL => ?_)
  obtain ⟨rfl, rfl, rfl⟩ := hL
  refine wl_x (ox_move rfl rfl) rfl rfl rfl ?_
  refine wl_x (ox_extract rfl rfl rfl) rfl rfl rfl ?_
  refine wl_x (ox_extract rfl rfl rfl) rfl rfl rfl ?_
  refine wl_x (ox_assign rfl rfl) rfl rfl rfl ?_
  refine wl_x (ox_assign rfl rfl) rfl rfl rfl ?_
  refine wl_nil ?_
  refine nx_then ?_
  refine ws_seq ?_
  refine ws_region ?_
  refine wl_x (ox_move rfl rfl) rfl rfl rfl ?_
  refine wl_x (ox_move rfl rfl) rfl rfl rfl ?_
  refine wl_x (ox_move rfl rfl) rfl rfl rfl ?_
  refine wl_x (ox_move rfl rfl) rfl rfl rfl ?_
  refine wl_call_ (pre := [Blk g 3 [.int .i64 (order2 ltInt d a b sw).2.2], m]) rfl Try.call73 rfl (order2_ok d v m hO (order2 ltInt d a b sw).2.1 c (order2 ltInt d a b sw).2.2 g l1.2.1 hc (by omega) hsz _ rfl rfl) rfl rfl rfl rfl (fun _ _ _ _ hL => ?_)
  obtain ⟨rfl, rfl, rfl⟩ := hL
  refine wl_x (ox_move rfl rfl) rfl rfl rfl ?_
  refine wl_x (ox_extract rfl rfl rfl) rfl rfl rfl ?_
  refine wl_x (ox_extract rfl rfl rfl) rfl rfl rfl ?_
  refine wl_x (ox_assign rfl rfl) rfl rfl rfl ?_
  refine wl_x (ox_assign rfl rfl) rfl rfl rfl ?_
  refine wl_nil ?_
  refine nx_then ?_
  refine ws_seq ?_
  refine ws_region ?_
  refine wl_x (ox_move rfl rfl) rfl rfl rfl ?_
  refine wl_x (ox_move rfl rfl) rfl rfl rfl ?_
  refine wl_x (ox_move rfl rfl) rfl rfl rfl ?_
  refine wl_x (ox_move rfl rfl) rfl rfl rfl ?_
  refine wl_call_ (pre := [Blk g 3 [.int .i64 (order2 ltInt d (order2 ltInt d a b sw).2.1 c (order2 ltInt d a b sw).2.2).2.2], m]) rfl Try.call73 rfl (order2_ok d v m hO (order2 ltInt d a b sw).1 (order2 ltInt d (order2 ltInt d a b sw).2.1 c (order2 ltInt d a b sw).2.2).1 (order2 ltInt d (order2 ltInt d a b sw).2.1 c (order2 ltInt d a b sw).2.2).2.2 g l1.1 l2.1 (by omega) hsz _ rfl rfl) rfl rfl rfl rfl (fun _ _ _ _ hL => ?_)
  obtain ⟨rfl, rfl, rfl⟩ := hL
  refine wl_x (ox_move rfl rfl) rfl rfl rfl ?_
  refine wl_x (ox_extract rfl rfl rfl) rfl rfl rfl ?_
  refine wl_x (ox_extract rfl rfl rfl) rfl rfl rfl ?_
  refine wl_x (ox_assign rfl rfl) rfl rfl rfl ?_
  refine wl_x (ox_assign rfl rfl) rfl rfl rfl ?_
  refine wl_nil ?_
  refine nx_then ?_
  refine ws_seq ?_
  refine ws_region ?_
  refine wl_x (ox_move rfl rfl) rfl rfl rfl ?_
  refine wl_x (ox_assign rfl rfl) rfl rfl rfl ?_
  refine wl_nil ?_
  refine nx_then ?_
  refine ws_ret ?_
  exact nx_ret1 rfl rfl (⟨rfl, rfl, rfl⟩)
theorem median_lt {d : Array Int} {a b c sw n : Nat} (ha : a < n) (hb : b < n) (hc : c < n) : (median ltInt d a b c sw).1 < n ∧ (median ltInt d a b c sw).2 ≤ sw + 3 := by
  have l1 := order2_lt (d := d) (sw := sw) ha hb
  have l2 := order2_lt (d := d) (sw := (order2 ltInt d a b sw).2.2) l1.2.1 hc
  have l3 := order2_lt (d := d) (sw := (order2 ltInt d (order2 ltInt d a b sw).2.1 c (order2 ltInt d a b sw).2.2).2.2) l1.1 l2.1
  exact ⟨l3.2.1, Nat.le_trans l3.2.2 (by omega)⟩

theorem medianAdjacent_ok (d : Array Int) (v : Value) (m : Hp) (hO : OI m v d) (a sw g : Nat) (ha : 0 < a) (hb : a + 1 < d.size) (hsw : sw ≤ 100) (hsz : d.size ≤ 2305843009213693951) (h : Hp) {a' : Int} (ea : a' = a) :
    FnT Try.prog 68 #[v, .int .i64 a', .pointer (some ⟨g, 0, none⟩)] h [Blk g 3 [.int .i64 sw], m] (fun r h' ms' => r = .int .i64 (medianAdjacent ltInt d a sw).1 ∧ Cnt h m g (medianAdjacent ltInt d a sw).2 h' ms') := by
  subst ea
  refine fn_enter Try.func68 Try.ntmps68 rfl rfl (fun w0 hw0 => ?_)
  simp only [argS]
  refine ws_seq ?_
  refine ws_region ?_
  refine wl_x (ox_assign rfl rfl) rfl rfl rfl ?_
  refine wl_nil ?_
  refine nx_then ?_
  refine ws_seq ?_
  refine ws_region ?_
  refine wl_x (ox_move rfl rfl) rfl rfl rfl ?_
  refine wl_x (ox_move rfl rfl) rfl rfl rfl ?_
  refine wl_x (ox_sub rfl rfl rfl (by omega)) rfl rfl rfl ?_
  refine wl_x (ox_move rfl rfl) rfl rfl rfl ?_
  refine wl_x (ox_move rfl rfl) rfl rfl rfl ?_
  refine wl_x (ox_add rfl rfl rfl (by omega)) rfl rfl rfl ?_
  refine wl_x (ox_move rfl rfl) rfl rfl rfl ?_
  refine wl_call_ (pre := [Blk g 3 [.int .i64 sw], m]) rfl Try.call69 rfl (median_ok d v m hO (a - 1) a (a + 1) sw g (by omega) (by omega) (by omega) (by omega) hsz _ (by omega) (by omega) (by omega)) rfl rfl rfl rfl (fun _ _ _ _ hL => ?_)
  obtain ⟨rfl, rfl, rfl⟩ := hL
  refine wl_x (ox_assign rfl rfl) rfl rfl rfl ?_
  refine wl_nil ?_
  refine nx_then ?_
  refine ws_ret ?_
  exact nx_ret1 rfl rfl (⟨rfl, rfl, rfl⟩)

def hintV : Hint → Int
  | .unknown => 0
  | .increasing => 1
  | .decreasing => 2

theorem choosePivot_ok (d : Array Int) (v : Value) (m : Hp) (hO : OI m v d) (a b : Nat) (hab : a < b) (hb : b ≤ d.size) (hsz : d.size ≤ 2305843009213693951) (h : Hp) {a' b' : Int} (ea : a' = a) (eb : b' = b) :
    FnT Try.prog 56 #[v, .int .i64 a', .int .i64 b'] h [m] (fun r h' ms' => r = .tuple #[.int .i64 (choosePivot ltInt d a b).1, .int .i64 (hintV (choosePivot ltInt d a b).2)] ∧ h = h' ∧ ms' = [m]) := by
  subst ea eb
  refine fn_enter Try.func56 Try.ntmps56 rfl rfl (fun w0 hw0 => ?_)
  simp only [argS]
  refine ws_seq ?_
  refine ws_region ?_
  refine wl_x (ox_assign rfl rfl) rfl rfl rfl ?_
  refine wl_x (ox_assign rfl rfl) rfl rfl rfl ?_
  refine wl_nil ?_
  refine nx_then ?_
  refine ws_seq ?_
  refine ws_region ?_
  refine wl_x (ox_move rfl rfl) rfl rfl rfl ?_
  refine wl_x (ox_move rfl rfl) rfl rfl rfl ?_
  refine wl_x (ox_sub rfl rfl rfl (by omega)) rfl rfl rfl ?_
  refine wl_x (ox_assign rfl rfl) rfl rfl rfl ?_
  refine wl_nil ?_
  refine nx_then ?_
  refine ws_seq ?_
  refine ws_region ?_
  refine wl_alloc [.int .i64 0] rfl el3 rfl rfl rfl rfl (fun g9 => ?_)
  refine wl_nil ?_
  refine nx_then ?_
  refine ws_seq ?_
  refine ws_region ?_
  refine wl_x (ox_move rfl rfl) rfl rfl rfl ?_
  refine wl_x (ox_move rfl rfl) rfl rfl rfl ?_
  first | refine wl_x (ox_quoP rfl rfl rfl (by omega) (by omega)) rfl rfl rfl ?_ | refine wl_x (ox_quo rfl rfl rfl (by omega) (by omega)) rfl rfl rfl ?_
  refine wl_x (ox_mul rfl rfl rfl (by omega)) rfl rfl rfl ?_
  refine wl_x (ox_add rfl rfl rfl (by omega)) rfl rfl rfl ?_
  refine wl_x (ox_assign rfl rfl) rfl rfl rfl ?_
  refine wl_nil ?_
  refine nx_then ?_
  refine ws_seq ?_
  refine ws_region ?_
  refine wl_x (ox_move rfl rfl) rfl rfl rfl ?_
  refine wl_x (ox_move rfl rfl) rfl rfl rfl ?_
  first | refine wl_x (ox_quoP rfl rfl rfl (by omega) (by omega)) rfl rfl rfl ?_ | refine wl_x (ox_quo rfl rfl rfl (by omega) (by omega)) rfl rfl rfl ?_
  refine wl_x (ox_mul rfl rfl rfl (by omega)) rfl rfl rfl ?_
  refine wl_x (ox_add rfl rfl rfl (by omega)) rfl rfl rfl ?_
  refine wl_x (ox_assign rfl rfl) rfl rfl rfl ?_
  refine wl_nil ?_
  refine nx_then ?_
  refine ws_seq ?_
  refine ws_region ?_
  refine wl_x (ox_move rfl rfl) rfl rfl rfl ?_
  refine wl_x (ox_move rfl rfl) rfl rfl rfl ?_
  first | refine wl_x (ox_quoP rfl rfl rfl (by omega) (by omega)) rfl rfl rfl ?_ | refine wl_x (ox_quo rfl rfl rfl (by omega) (by omega)) rfl rfl rfl ?_
  refine wl_x (ox_mul rfl rfl rfl (by omega)) rfl rfl rfl ?_
  refine wl_x (ox_add rfl rfl rfl (by omega)) rfl rfl rfl ?_
  refine wl_x (ox_assign rfl rfl) rfl rfl rfl ?_
  refine wl_nil ?_
  refine nx_then ?_
  refine ws_cut (fun s h' ms' => ∃ (p sw : Nat), s = [(9, .pointer (some ⟨g9, 0, none⟩)), (11, .int .i64 p)] ∧ h = h' ∧ ms' = [Blk g9 3 [.int .i64 sw], m] ∧ choosePivot ltInt d a b = (p, if sw = 0 then .increasing else if sw = 12 then .decreasing else .unknown)) ?_ (fun s h ms hI => ?_)
  · skip
    refine ws_seq ?_
    refine ws_region ?_
    refine wl_x (ox_move rfl rfl) rfl rfl rfl ?_
    refine wl_x (ox_geq rfl rfl rfl) rfl rfl rfl ?_
    refine wl_nil ?_
    refine nx_then ?_
    refine ws_if rfl (fun h8 => ?_) (fun h8 => ?_)
    · skip
      refine ws_seq ?_
      refine ws_seq ?_
      refine ws_region ?_
      refine wl_x (ox_move rfl rfl) rfl rfl rfl ?_
      refine wl_x (ox_geq rfl rfl rfl) rfl rfl rfl ?_
      refine wl_nil ?_
      refine nx_then ?_
      refine ws_if rfl (fun h50 => ?_) (fun h50 => ?_)
      · skip
        have hi : a + (b - a) / 4 * 1 + 1 < d.size := by omega
        have hj : a + (b - a) / 4 * 2 + 1 < d.size := by omega
        have hk : a + (b - a) / 4 * 3 + 1 < d.size := by omega
        refine ws_seq ?_
        refine ws_region ?_
        refine wl_x (ox_move rfl rfl) rfl rfl rfl ?_
        refine wl_x (ox_move rfl rfl) rfl rfl rfl ?_
        refine wl_call_ (pre := [Blk g9 3 [.int .i64 (0 : Nat)], m]) rfl Try.call68 rfl (medianAdjacent_ok d v m hO (a + (b - a) / 4 * 1) 0 g9 (by omega) hi (by omega) hsz _ (by omega)) rfl rfl rfl rfl (fun _ _ _ _ hL => ?_)
        obtain ⟨rfl, rfl, rfl⟩ := hL
        have m1 := median_lt (d := d) (sw := 0) (n := d.size) (a := a + (b - a) / 4 * 1 - 1) (b := a + (b - a) / 4 * 1) (c := a + (b - a) / 4 * 1 + 1) (by omega) (by omega) (by omega)
        change (medianAdjacent ltInt d (a + (b - a) / 4 * 1) 0).1 < _ ∧ (medianAdjacent ltInt d (a + (b - a) / 4 * 1) 0).2 ≤ _ at m1
        generalize hri : medianAdjacent ltInt d (a + (b - a) / 4 * 1) 0 = ri at m1 ⊢
        refine wl_x (ox_assign rfl rfl) rfl rfl rfl ?_
        refine wl_nil ?_
        refine nx_then ?_
        refine ws_seq ?_
        refine ws_region ?_
        refine wl_x (ox_move rfl rfl) rfl rfl rfl ?_
        refine wl_x (ox_move rfl rfl) rfl rfl rfl ?_
        refine wl_call_ (pre := [Blk g9 3 [.int .i64 ri.2], m]) rfl Try.call68 rfl (medianAdjacent_ok d v m hO (a + (b - a) / 4 * 2) ri.2 g9 (by omega) hj (by omega) hsz _ (by omega)) rfl rfl rfl rfl (fun _ _ _ _ hL => ?_)
        obtain ⟨rfl, rfl, rfl⟩ := hL
        have m2 := median_lt (d := d) (sw := ri.2) (n := d.size) (a := a + (b - a) / 4 * 2 - 1) (b := a + (b - a) / 4 * 2) (c := a + (b - a) / 4 * 2 + 1) (by omega) (by omega) (by omega)
        change (medianAdjacent ltInt d (a + (b - a) / 4 * 2) ri.2).1 < _ ∧ (medianAdjacent ltInt d (a + (b - a) / 4 * 2) ri.2).2 ≤ _ at m2
        generalize hrj : medianAdjacent ltInt d (a + (b - a) / 4 * 2) ri.2 = rj at m2 ⊢
        refine wl_x (ox_assign rfl rfl) rfl rfl rfl ?_
        refine wl_nil ?_
        refine nx_then ?_
        refine ws_region ?_
        refine wl_x (ox_move rfl rfl) rfl rfl rfl ?_
        refine wl_x (ox_move rfl rfl) rfl rfl rfl ?_
        refine wl_call_ (pre := [Blk g9 3 [.int .i64 rj.2], m]) rfl Try.call68 rfl (medianAdjacent_ok d v m hO (a + (b - a) / 4 * 3) rj.2 g9 (by omega) hk (by omega) hsz _ (by omega)) rfl rfl rfl rfl (fun _ _ _ _ hL => ?_)
        obtain ⟨rfl, rfl, rfl⟩ := hL
        have m3 := median_lt (d := d) (sw := rj.2) (n := d.size) (a := a + (b - a) / 4 * 3 - 1) (b := a + (b - a) / 4 * 3) (c := a + (b - a) / 4 * 3 + 1) (by omega) (by omega) (by omega)
        change (medianAdjacent ltInt d (a + (b - a) / 4 * 3) rj.2).1 < _ ∧ (medianAdjacent ltInt d (a + (b - a) / 4 * 3) rj.2).2 ≤ _ at m3
        generalize hrk : medianAdjacent ltInt d (a + (b - a) / 4 * 3) rj.2 = rk at m3 ⊢
        refine wl_x (ox_assign rfl rfl) rfl rfl rfl ?_
        refine wl_nil ?_
        refine nx_then ?_
        refine ws_region ?_
        refine wl_x (ox_move rfl rfl) rfl rfl rfl ?_
        refine wl_x (ox_move rfl rfl) rfl rfl rfl ?_
        refine wl_x (ox_move rfl rfl) rfl rfl rfl ?_
        refine wl_x (ox_move rfl rfl) rfl rfl rfl ?_
        refine wl_call_ (pre := [Blk g9 3 [.int .i64 rk.2], m]) rfl Try.call69 rfl (median_ok d v m hO ri.1 rj.1 rk.1 rk.2 g9 m1.1 m2.1 m3.1 (by omega) hsz _ rfl rfl rfl) rfl rfl rfl rfl (fun _ _ _ _ hL => ?_)
        obtain ⟨rfl, rfl, rfl⟩ := hL
        refine wl_x (ox_assign rfl rfl) rfl rfl rfl ?_
        refine wl_nil ?_
        refine nx_meet _ ⟨(median ltInt d ri.1 rj.1 rk.1 rk.2).1, (median ltInt d ri.1 rj.1 rk.1 rk.2).2, rfl, rfl, rfl, ?_⟩ (by repeat (first | exact trivial | refine ⟨rfl, ?_⟩))
        unfold choosePivot
        simp only [if_pos (show b - a ≥ 8 by omega), if_pos (show b - a ≥ 50 by omega), hri, hrj, hrk]
      · skip
        refine ws_skip ?_
        refine nx_then ?_
        refine ws_region ?_
        refine wl_x (ox_move rfl rfl) rfl rfl rfl ?_
        refine wl_x (ox_move rfl rfl) rfl rfl rfl ?_
        refine wl_x (ox_move rfl rfl) rfl rfl rfl ?_
        refine wl_x (ox_move rfl rfl) rfl rfl rfl ?_
        refine wl_call_ (pre := [Blk g9 3 [.int .i64 (0 : Nat)], m]) rfl Try.call69 rfl (median_ok d v m hO (a + (b - a) / 4 * 1) (a + (b - a) / 4 * 2) (a + (b - a) / 4 * 3) 0 g9 (by omega) (by omega) (by omega) (by omega) hsz _ (by omega) (by omega) (by omega)) rfl rfl rfl rfl (fun _ _ _ _ hL => ?_)
        obtain ⟨rfl, rfl, rfl⟩ := hL
        refine wl_x (ox_assign rfl rfl) rfl rfl rfl ?_
        refine wl_nil ?_
        refine nx_meet _ ⟨_, _, rfl, rfl, rfl, ?_⟩ (by repeat (first | exact trivial | refine ⟨rfl, ?_⟩))
        unfold choosePivot
        simp only [if_pos (show b - a ≥ 8 by omega), if_neg (show ¬ b - a ≥ 50 by omega)]
    · skip
      refine ws_skip ?_
      have ej : (a : Int) + ((b : Int) - a) / 4 * 2 = ((a + (b - a) / 4 * 2 : Nat) : Int) := by omega
      rw [ej]
      refine nx_meet _ ⟨a + (b - a) / 4 * 2, 0, rfl, rfl, rfl, ?_⟩ (by repeat (first | exact trivial | refine ⟨rfl, ?_⟩))
      unfold choosePivot
      simp only [if_neg (show ¬ b - a ≥ 8 by omega)]
  · skip
    obtain ⟨p, sw, rfl, rfl, rfl, hE⟩ := hI
    rw [hE]
    refine ws_seq ?_
    refine ws_region ?_
    refine wl_x (ox_load rfl Try.underlying3 rfl rfl (by first | exact Cell.blk0 0 rfl rfl | exact Cell.blk0 1 rfl rfl | exact hO.get (.tail _ (.head _)) (by omega))) rfl rfl rfl ?_
    refine wl_nil ?_
    refine nx_then ?_
    refine ws_block ?_
    refine ws_seq ?_
    refine ws_region ?_
    refine wl_x (ox_eqi rfl rfl rfl) rfl rfl rfl ?_
    refine wl_x (ox_assign rfl rfl) rfl rfl rfl ?_
    refine wl_nil ?_
    refine nx_then ?_
    refine ws_if rfl (fun h0 => ?_) (fun h0 => ?_)
    · skip
      refine ws_seq ?_
      refine ws_region ?_
      refine wl_x (ox_move rfl rfl) rfl rfl rfl ?_
      refine wl_x (ox_assign rfl rfl) rfl rfl rfl ?_
      refine wl_x (ox_assign rfl rfl) rfl rfl rfl ?_
      refine wl_nil ?_
      refine nx_then ?_
      refine ws_ret ?_
      refine nx_block_ret ?_
      refine nx_drop ?_
      rw [if_pos (show sw = 0 by omega)]
      exact nx_ret2 rfl rfl rfl (⟨rfl, rfl, rfl⟩)
    · skip
      rw [if_neg (show ¬ sw = 0 by omega)]
      refine ws_seq ?_
      refine ws_region ?_
      refine wl_x (ox_eqi rfl rfl rfl) rfl rfl rfl ?_
      refine wl_x (ox_assign rfl rfl) rfl rfl rfl ?_
      refine wl_nil ?_
      refine nx_then ?_
      refine ws_if rfl (fun h12 => ?_) (fun h12 => ?_)
      · skip
        refine ws_seq ?_
        refine ws_region ?_
        refine wl_x (ox_move rfl rfl) rfl rfl rfl ?_
        refine wl_x (ox_assign rfl rfl) rfl rfl rfl ?_
        refine wl_x (ox_assign rfl rfl) rfl rfl rfl ?_
        refine wl_nil ?_
        refine nx_then ?_
        refine ws_ret ?_
        refine nx_block_ret ?_
        refine nx_drop ?_
        rw [if_pos (show sw = 12 by omega)]
        exact nx_ret2 rfl rfl rfl (⟨rfl, rfl, rfl⟩)
      · skip
        refine ws_seq ?_
        refine ws_region ?_
        refine wl_x (ox_move rfl rfl) rfl rfl rfl ?_
        refine wl_x (ox_assign rfl rfl) rfl rfl rfl ?_
        refine wl_x (ox_assign rfl rfl) rfl rfl rfl ?_
        refine wl_nil ?_
        refine nx_then ?_
        refine ws_ret ?_
        refine nx_block_ret ?_
        refine nx_drop ?_
        rw [if_neg (show ¬ sw = 12 by omega)]
        exact nx_ret2 rfl rfl rfl (⟨rfl, rfl, rfl⟩)
end Go.Proofs.Ythdkhnjnhhofgaa

/- Walks: the library's sort at integers: random numbers; the patterns. -/
set_option linter.unusedSimpArgs false
set_option linter.unusedVariables false
set_option maxRecDepth 100000
namespace Go.Proofs.Ythdkhnjnhhofgaa
open Go.Eng Go.RowKit Go.Sort
theorem next_ok (r g : Nat) (hr : r < 18446744073709551616) (h : Hp) : FnT Try.prog 67 #[.pointer (some ⟨g, 0, none⟩)] h [Blk g 88 [.int .u64 r]] (fun v h' ms' => v = .int .u64 (xorNextN r : Nat) ∧ h = h' ∧ ms' = [Blk g 88 [.int .u64 (xorNextN r : Nat)]]) := by
  have p : (18446744073709551616 : Nat) = 2 ^ 64 := by decide
  obtain ⟨x1, hx1⟩ : ∃ x, x = r ^^^ (r * 2 ^ 13 % 18446744073709551616) := ⟨_, rfl⟩
  have b1 : x1 < 18446744073709551616 := by rw [hx1, p]; exact Nat.xor_lt_two_pow (by omega) (by omega)
  obtain ⟨x2, hx2⟩ : ∃ x, x = x1 ^^^ (x1 / 2 ^ 7) := ⟨_, rfl⟩
  have b2 : x2 < 18446744073709551616 := by rw [hx2, p]; exact Nat.xor_lt_two_pow (by omega) (by omega)
  have hN : xorNextN r = x2 ^^^ (x2 * 2 ^ 17 % 18446744073709551616) := by rw [hx2, hx1]; rfl
  rw [hN]
  refine fn_enter Try.func67 Try.ntmps67 rfl rfl (fun w0 hw0 => ?_)
  simp only [argS]
  refine ws_seq ?_
  refine ws_region ?_
  refine wl_x (ox_assign rfl rfl) rfl rfl rfl ?_
  refine wl_nil ?_
  refine nx_then ?_
  refine ws_seq ?_
  refine ws_draw 7 fol (by kernel_rfl) rfl ?_
  simp only [List.take_succ_cons, List.take_zero, List.drop_succ_cons, List.drop_zero, List.take_nil, List.drop_nil]
  refine wr_x (ox_move rfl rfl) rfl rfl ?_
  refine wr_x (ox_nilCheck rfl rfl) rfl rfl ?_
  refine wr_x (ox_load rfl Try.underlying88 rfl rfl (by first | exact Cell.blk0 0 rfl rfl | exact Cell.blk0 1 rfl rfl)) rfl rfl ?_
  refine wr_x (ox_move rfl rfl) rfl rfl ?_
  refine wr_x (ox_nilCheck rfl rfl) rfl rfl ?_
  refine wr_x (ox_load rfl Try.underlying88 rfl rfl (by first | exact Cell.blk0 0 rfl rfl | exact Cell.blk0 1 rfl rfl)) rfl rfl ?_
  refine wr_x (ox_shlU (n := 13) rfl rfl rfl (by omega)) rfl rfl ?_
  refine wr_nil ?_
  refine wl_x (ox_xorU rfl rfl rfl (by omega) (by omega)) rfl rfl rfl ?_
  refine wl_x (ox_nilCheck rfl rfl) rfl rfl rfl ?_
  first | refine wl_storeAt 0 0 rfl el88 rfl rfl (by first | rfl | exact Rd.one ‹_› | exact (RdL.rd ‹_›).one) rfl rfl (by first | decide | (simp; done) | exact of_decide_eq_true rfl | (simp; omega)) rfl rfl ?_ | refine wl_storeAt 1 0 rfl el88 rfl rfl (by first | rfl | exact Rd.one ‹_› | exact (RdL.rd ‹_›).one) rfl rfl (by first | decide | (simp; done) | exact of_decide_eq_true rfl | (simp; omega)) rfl rfl ?_
  refine wl_nil ?_
  refine nx_then ?_
  rw [← hx1]
  refine ws_seq ?_
  refine ws_draw 7 fol (by kernel_rfl) rfl ?_
  simp only [List.take_succ_cons, List.take_zero, List.drop_succ_cons, List.drop_zero, List.take_nil, List.drop_nil]
  refine wr_x (ox_move rfl rfl) rfl rfl ?_
  refine wr_x (ox_nilCheck rfl rfl) rfl rfl ?_
  refine wr_x (ox_load rfl Try.underlying88 rfl rfl (by first | exact Cell.blk0 0 rfl rfl | exact Cell.blk0 1 rfl rfl)) rfl rfl ?_
  refine wr_x (ox_move rfl rfl) rfl rfl ?_
  refine wr_x (ox_nilCheck rfl rfl) rfl rfl ?_
  refine wr_x (ox_load rfl Try.underlying88 rfl rfl (by first | exact Cell.blk0 0 rfl rfl | exact Cell.blk0 1 rfl rfl)) rfl rfl ?_
  refine wr_x (ox_shrU (n := 7) rfl rfl rfl (by omega)) rfl rfl ?_
  refine wr_nil ?_
  refine wl_x (ox_xorU rfl rfl rfl (by omega) (by omega)) rfl rfl rfl ?_
  refine wl_x (ox_nilCheck rfl rfl) rfl rfl rfl ?_
  first | refine wl_storeAt 0 0 rfl el88 rfl rfl (by first | rfl | exact Rd.one ‹_› | exact (RdL.rd ‹_›).one) rfl rfl (by first | decide | (simp; done) | exact of_decide_eq_true rfl | (simp; omega)) rfl rfl ?_ | refine wl_storeAt 1 0 rfl el88 rfl rfl (by first | rfl | exact Rd.one ‹_› | exact (RdL.rd ‹_›).one) rfl rfl (by first | decide | (simp; done) | exact of_decide_eq_true rfl | (simp; omega)) rfl rfl ?_
  refine wl_nil ?_
  refine nx_then ?_
  rw [← hx2]
  refine ws_seq ?_
  refine ws_draw 7 fol (by kernel_rfl) rfl ?_
  simp only [List.take_succ_cons, List.take_zero, List.drop_succ_cons, List.drop_zero, List.take_nil, List.drop_nil]
  refine wr_x (ox_move rfl rfl) rfl rfl ?_
  refine wr_x (ox_nilCheck rfl rfl) rfl rfl ?_
  refine wr_x (ox_load rfl Try.underlying88 rfl rfl (by first | exact Cell.blk0 0 rfl rfl | exact Cell.blk0 1 rfl rfl)) rfl rfl ?_
  refine wr_x (ox_move rfl rfl) rfl rfl ?_
  refine wr_x (ox_nilCheck rfl rfl) rfl rfl ?_
  refine wr_x (ox_load rfl Try.underlying88 rfl rfl (by first | exact Cell.blk0 0 rfl rfl | exact Cell.blk0 1 rfl rfl)) rfl rfl ?_
  refine wr_x (ox_shlU (n := 17) rfl rfl rfl (by omega)) rfl rfl ?_
  refine wr_nil ?_
  refine wl_x (ox_xorU rfl rfl rfl (by omega) (by omega)) rfl rfl rfl ?_
  refine wl_x (ox_nilCheck rfl rfl) rfl rfl rfl ?_
  first | refine wl_storeAt 0 0 rfl el88 rfl rfl (by first | rfl | exact Rd.one ‹_› | exact (RdL.rd ‹_›).one) rfl rfl (by first | decide | (simp; done) | exact of_decide_eq_true rfl | (simp; omega)) rfl rfl ?_ | refine wl_storeAt 1 0 rfl el88 rfl rfl (by first | rfl | exact Rd.one ‹_› | exact (RdL.rd ‹_›).one) rfl rfl (by first | decide | (simp; done) | exact of_decide_eq_true rfl | (simp; omega)) rfl rfl ?_
  refine wl_nil ?_
  refine nx_then ?_
  refine ws_seq ?_
  refine ws_region ?_
  refine wl_x (ox_move rfl rfl) rfl rfl rfl ?_
  refine wl_x (ox_nilCheck rfl rfl) rfl rfl rfl ?_
  refine wl_x (ox_load rfl Try.underlying88 rfl rfl (by first | exact Cell.blk0 0 rfl rfl | exact Cell.blk0 1 rfl rfl)) rfl rfl rfl ?_
  refine wl_x (ox_assign rfl rfl) rfl rfl rfl ?_
  refine wl_nil ?_
  refine nx_then ?_
  refine ws_ret ?_
  exact nx_ret1 rfl rfl (⟨rfl, rfl, rfl⟩)
theorem bitsLen_ok (n : Nat) (hn : n < 18446744073709551616) (h : Hp) (ms : List Hp) {n' : Int} (e : n' = n) : FnV Try.prog 47 #[.int .u64 n'] h ms (.int .i64 (bitsLen n : Nat)) := by
  subst e
  have := Try.bits_Len (n : Int)
  exact FnV.ofCalls fun w => by
    have := Try.bits_Len (n : Int) w (by omega) (by omega)
    rwa [Int.toNat_natCast, bitLen_eq n hn] at this
theorem nextPow_ok (n : Nat) (hn : n < 4611686018427387904) (h : Hp) (ms : List Hp) {n' : Int} (e : n' = n) : FnV Try.prog 66 #[.int .i64 n'] h ms (.int .u64 (1 <<< bitsLen n : Nat)) := by
  subst e
  refine FnV.weaken (FnT.toV ?_) (Hp.emp_le h)
  have hb : bitsLen n ≤ 62 := (bitsLen_le_iff n 62).2 (by omega)
  refine fn_enter Try.func66 Try.ntmps66 rfl rfl (fun w0 hw0 => ?_)
  simp only [argS]
  refine ws_seq ?_
  refine ws_region ?_
  refine wl_x (ox_assign rfl rfl) rfl rfl rfl ?_
  refine wl_nil ?_
  refine nx_then ?_
  refine ws_seq ?_
  refine ws_region ?_
  refine wl_x (ox_move rfl rfl) rfl rfl rfl ?_
  refine wl_x (ox_conv rfl Try.underlying3 Try.underlying69 rfl (wrap_u64 (by omega))) rfl rfl rfl ?_
  refine wl_x (ox_call rfl Try.call47 rfl (bitsLen_ok n (by omega) _ _ rfl)) rfl rfl rfl ?_
  refine wl_x (ox_shlU rfl rfl rfl (by omega)) rfl rfl rfl ?_
  refine wl_x (ox_assign rfl rfl) rfl rfl rfl ?_
  refine wl_nil ?_
  refine nx_then ?_
  refine ws_ret ?_
  have e1 : 1 * 2 ^ bitsLen n % 18446744073709551616 = 1 <<< bitsLen n := by
    have : 2 ^ bitsLen n ≤ 2 ^ 62 := Nat.pow_le_pow_right (by decide) hb
    rw [Nat.one_mul, Nat.mod_eq_of_lt (by omega), Nat.shiftLeft_eq, Nat.one_mul]
  exact nx_ret1 rfl rfl (by rw [← e1])
end Go.Proofs.Ythdkhnjnhhofgaa

/- Walks: the library's sort at integers: the patterns that are broken; the sort that gives up. -/
set_option linter.unusedSimpArgs false
set_option linter.unusedVariables false
set_option maxRecDepth 100000
namespace Go.Proofs.Ythdkhnjnhhofgaa
open Go.Eng Go.RowKit Go.Sort

def bkRest (a l md i0 : Nat) : Nat → UInt64 × Array Int → Array Int
  | 0, st => st.2
  | n + 1, st => bkRest a l md i0 n (breakStep a l md st (i0 + (3 - (n + 1))))
theorem breakStep_size (a l md idx : Nat) (st : UInt64 × Array Int) : (breakStep a l md st idx).2.size = st.2.size := size_swp _ _ _

theorem breakPatterns_ok (d : Array Int) (v : Value) (m : Hp) (hO : OI m v d) (a b : Nat) (hab : a < b) (hb : b ≤ d.size) (hsz : d.size ≤ 2305843009213693951) (h : Hp) {a' b' : Int} (ea : a' = a) (eb : b' = b) :
    FnT Try.prog 55 #[v, .int .i64 a', .int .i64 b'] h [m] (Left h v (breakPatterns d a b)) := by
  subst ea eb
  refine fn_enter Try.func55 Try.ntmps55 rfl rfl (fun w0 hw0 => ?_)
  simp only [argS]
  refine ws_seq ?_
  refine ws_region ?_
  refine wl_x (ox_move rfl rfl) rfl rfl rfl ?_
  refine wl_x (ox_move rfl rfl) rfl rfl rfl ?_
  refine wl_x (ox_sub rfl rfl rfl (by omega)) rfl rfl rfl ?_
  refine wl_x (ox_assign rfl rfl) rfl rfl rfl ?_
  refine wl_nil ?_
  refine nx_then ?_
  refine ws_seq ?_
  refine ws_region ?_
  refine wl_x (ox_move rfl rfl) rfl rfl rfl ?_
  refine wl_x (ox_geq rfl rfl rfl) rfl rfl rfl ?_
  refine wl_nil ?_
  refine nx_then ?_
  refine ws_if rfl (fun h8 => ?_) (fun h8 => ?_)
  · skip
    refine ws_seq ?_
    refine ws_region ?_
    refine wl_x (ox_move rfl rfl) rfl rfl rfl ?_
    refine wl_x (ox_conv rfl Try.underlying3 Try.underlying88 rfl (wrap_u64 (by omega))) rfl rfl rfl ?_
    refine wl_alloc [.int .u64 0] rfl el88 rfl rfl rfl rfl (fun g7 => ?_)
    first | refine wl_storeAt 0 0 rfl el88 rfl rfl (by first | rfl | exact Rd.one ‹_› | exact (RdL.rd ‹_›).one) rfl rfl (by first | decide | (simp; done) | exact of_decide_eq_true rfl | (simp; omega)) rfl rfl ?_ | refine wl_storeAt 1 0 rfl el88 rfl rfl (by first | rfl | exact Rd.one ‹_› | exact (RdL.rd ‹_›).one) rfl rfl (by first | decide | (simp; done) | exact of_decide_eq_true rfl | (simp; omega)) rfl rfl ?_
    refine wl_nil ?_
    refine nx_then ?_
    refine ws_seq ?_
    refine ws_region ?_
    refine wl_x (ox_move rfl rfl) rfl rfl rfl ?_
    refine wl_x (ox_call rfl Try.call66 rfl (nextPow_ok (b - a) (by omega) _ _ (by omega))) rfl rfl rfl ?_
    refine wl_x (ox_assign rfl rfl) rfl rfl rfl ?_
    refine wl_nil ?_
    refine nx_then ?_
    refine ws_seq ?_
    refine ws_region ?_
    refine wl_x (ox_move rfl rfl) rfl rfl rfl ?_
    refine wl_x (ox_move rfl rfl) rfl rfl rfl ?_
    first | refine wl_x (ox_quoP rfl rfl rfl (by omega) (by omega)) rfl rfl rfl ?_ | refine wl_x (ox_quo rfl rfl rfl (by omega) (by omega)) rfl rfl rfl ?_
    refine wl_x (ox_mul rfl rfl rfl (by omega)) rfl rfl rfl ?_
    refine wl_x (ox_add rfl rfl rfl (by omega)) rfl rfl rfl ?_
    refine wl_x (ox_sub rfl rfl rfl (by omega)) rfl rfl rfl ?_
    refine wl_x (ox_assign rfl rfl) rfl rfl rfl ?_
    refine wl_nil ?_
    refine nx_then ?_
    refine ws_block ?_
    have hmd : 1 <<< bitsLen (b - a) = 2 ^ bitsLen (b - a) := by rw [Nat.shiftLeft_eq, Nat.one_mul]
    have hp := two_pow_bitsLen_le (n := b - a) (by omega)
    have hpos : 0 < 2 ^ bitsLen (b - a) := Nat.two_pow_pos _
    generalize hM : 1 <<< bitsLen (b - a) = M
    rw [hM] at hmd
    have hbp : breakPatterns d a b = bkRest a (b - a) M (a + (b - a) / 4 * 2 - 1) 3 (UInt64.ofNat (b - a), d) := by
      unfold breakPatterns; simp only [if_pos (show b - a ≥ 8 by omega), hM]; rfl
    have hr0 : (b : Int) - a = ((UInt64.ofNat (b - a)).toNat : Int) := by
      rw [UInt64.toNat_ofNat_of_lt' (by have : UInt64.size = 18446744073709551616 := rfl; omega)]; omega
    refine ws_loop (fun n s h' ms' => ∃ (y : Int) (r : UInt64) (d' : Array Int) (m : Hp), s = [(0, v), (1, .int .i64 a), (6, .int .i64 ((b : Int) - a)), (7, .pointer (some ⟨g7, 0, none⟩)), (8, .int .u64 M), (9, .int .i64 y)] ∧ h = h' ∧ ms' = [Blk g7 88 [.int .u64 r.toNat], m] ∧ y = (a + (b - a) / 4 * 2 - 1 + (3 - n) : Nat) ∧ n ≤ 3 ∧ OI m v d' ∧ d'.size = d.size ∧ bkRest a (b - a) M (a + (b - a) / 4 * 2 - 1) n (r, d') = breakPatterns d a b)
      3 _ ⟨(a : Int) + ((b : Int) - a) / 4 * 2 - 1, UInt64.ofNat (b - a), d, m, rfl, rfl, by simp only [← hr0]; rfl, by omega, by omega, hO, rfl, hbp.symm⟩ (by repeat (first | exact trivial | refine ⟨rfl, ?_⟩)) ?_
    rintro n s h' ms' ⟨y, r, d0, m0, rfl, rfl, rfl, hy, hn, hO0, hds, hR⟩
    refine ws_seq ?_
    refine ws_seq ?_
    refine ws_region ?_
    refine wl_x (ox_move rfl rfl) rfl rfl rfl ?_
    refine wl_x (ox_move rfl rfl) rfl rfl rfl ?_
    refine wl_x (ox_move rfl rfl) rfl rfl rfl ?_
    first | refine wl_x (ox_quoP rfl rfl rfl (by omega) (by omega)) rfl rfl rfl ?_ | refine wl_x (ox_quo rfl rfl rfl (by omega) (by omega)) rfl rfl rfl ?_
    refine wl_x (ox_mul rfl rfl rfl (by omega)) rfl rfl rfl ?_
    refine wl_x (ox_add rfl rfl rfl (by omega)) rfl rfl rfl ?_
    refine wl_x (ox_add rfl rfl rfl (by omega)) rfl rfl rfl ?_
    refine wl_x (ox_leq rfl rfl rfl) rfl rfl rfl ?_
    refine wl_nil ?_
    refine nx_then ?_
    refine ws_if rfl (fun hle => ?_) (fun hle => ?_)
    · skip
      obtain ⟨k, rfl⟩ : ∃ k, n = k + 1 := ⟨n - 1, by omega⟩
      refine ws_skip ?_
      refine nx_then ?_
      refine ws_seq ?_
      refine ws_block ?_
      refine ws_seq ?_
      refine ws_region ?_
      refine wl_call_ (pre := [Blk g7 88 [.int .u64 r.toNat]]) rfl Try.call67 rfl (next_ok r.toNat g7 r.toNat_lt _) rfl rfl rfl rfl (fun _ _ _ _ hL => ?_)
      obtain ⟨rfl, rfl, rfl⟩ := hL
      rw [← xorNext_toNat]
      have hq := (xorNext r).toNat_lt
      refine wl_x (ox_move rfl rfl) rfl rfl rfl ?_
      refine wl_x (v := .int .u64 ((M - 1 : Nat) : Int)) (by
        have e1 : ((M - 1 : Nat) : Int) = IntKind.u64.wrap ((M : Int) - 1) := by rw [wrap_u64 (by omega)]; omega
        rw [e1]; exact ox_subW rfl rfl rfl) rfl rfl rfl ?_
      have hand : (xorNext r).toNat &&& (M - 1) ≤ M - 1 := Nat.and_le_right
      refine wl_x (ox_andU rfl rfl rfl (by omega) (by omega)) rfl rfl rfl ?_
      refine wl_x (ox_conv rfl Try.underlying69 Try.underlying3 rfl (wrap_i64 (by omega))) rfl rfl rfl ?_
      refine wl_x (ox_assign rfl rfl) rfl rfl rfl ?_
      refine wl_nil ?_
      refine nx_then ?_
      refine ws_seq ?_
      refine ws_seq ?_
      refine ws_region ?_
      refine wl_x (ox_move rfl rfl) rfl rfl rfl ?_
      refine wl_x (ox_move rfl rfl) rfl rfl rfl ?_
      refine wl_x (ox_geq rfl rfl rfl) rfl rfl rfl ?_
      refine wl_nil ?_
      refine nx_then ?_
      generalize ho : (xorNext r).toNat &&& (M - 1) = ot at hand ⊢
      refine ws_if rfl (fun hge => ?_) (fun hge => ?_)
      · skip
        refine ws_region ?_
        refine wl_x (ox_move rfl rfl) rfl rfl rfl ?_
        refine wl_x (ox_move rfl rfl) rfl rfl rfl ?_
        refine wl_x (ox_sub rfl rfl rfl (by omega)) rfl rfl rfl ?_
        refine wl_x (ox_assign rfl rfl) rfl rfl rfl ?_
        refine wl_nil ?_
        refine nx_then ?_
        refine ws_drawP 16 [false, false, true, true, true, true] fol (by kernel_rfl) (by kernel_rfl) (by kernel_rfl) ?_
        refine pz_x rfl rfl rfl rfl (px_move rfl rfl) ?_
        refine pz_x rfl rfl rfl rfl (px_move rfl rfl) ?_
        refine pz_x rfl rfl rfl rfl (px_move rfl rfl) ?_
        refine pz_x rfl rfl rfl rfl (px_add rfl rfl rfl (by omega)) ?_
        refine ⟨rfl, ?_⟩
        simp only [zapL, zap, List.cons_append, List.nil_append, List.take_succ_cons, List.take_zero, List.drop_succ_cons, List.drop_zero, List.take_nil, List.drop_nil]
        refine wr_x (ox_move rfl rfl) rfl rfl ?_
        refine wr_x (ox_move rfl rfl) rfl rfl ?_
        refine wr_z rfl rfl rfl ?_
        refine wr_z rfl rfl rfl ?_
        refine wr_z rfl rfl rfl ?_
        refine wr_z rfl rfl rfl ?_
        refine wr_x (ox_move rfl rfl) rfl rfl ?_
        refine wr_x (ox_move rfl rfl) rfl rfl ?_
        refine wr_x (ox_move rfl rfl) rfl rfl ?_
        refine wr_x (ox_add rfl rfl rfl (by omega)) rfl rfl ?_
        first | refine wr_x (ox_index (a + (ot - (b - a))) rfl Try.underlying23 el3 rfl rfl (by omega) (by omega)) rfl rfl ?_ | refine wr_x (ox_indexR (a + (ot - (b - a))) (hO0.rd (.tail _ (.head _))) rfl Try.underlying23 el3 rfl rfl (by omega) (by omega)) rfl rfl ?_
        refine wr_x (ox_load rfl Try.underlying3 rfl rfl (by first | exact hO0.get (.tail _ (.head _)) (by omega))) rfl rfl ?_
        refine wr_x (ox_move rfl rfl) rfl rfl ?_
        refine wr_x (ox_move rfl rfl) rfl rfl ?_
        first | refine wr_x (ox_index (a + (b - a) / 4 * 2 - 1 + (3 - (k + 1))) rfl Try.underlying23 el3 rfl rfl (by omega) (by omega)) rfl rfl ?_ | refine wr_x (ox_indexR (a + (b - a) / 4 * 2 - 1 + (3 - (k + 1))) (hO0.rd (.tail _ (.head _))) rfl Try.underlying23 el3 rfl rfl (by omega) (by omega)) rfl rfl ?_
        refine wr_x (ox_load rfl Try.underlying3 rfl rfl (by first | exact hO0.get (.tail _ (.head _)) (by omega))) rfl rfl ?_
        refine wr_nil ?_
        first | refine wl_x (ox_index (a + (b - a) / 4 * 2 - 1 + (3 - (k + 1))) rfl Try.underlying23 el3 rfl rfl (by omega) (by omega)) rfl rfl rfl ?_ | refine wl_x (ox_indexR (a + (b - a) / 4 * 2 - 1 + (3 - (k + 1))) (hO0.rd (.tail _ (.head _))) rfl Try.underlying23 el3 rfl rfl (by omega) (by omega)) rfl rfl rfl ?_
        refine wl_storeI 1 _ hO0 rfl el3 rfl rfl rfl (by omega) rfl rfl (fun mhO1 hzhO1 hO1 => ?_)
        first | refine wl_x (ox_index (a + (ot - (b - a))) rfl Try.underlying23 el3 rfl rfl (by omega) (by omega)) rfl rfl rfl ?_ | refine wl_x (ox_indexR (a + (ot - (b - a))) (hO1.rd (.tail _ (.head _))) rfl Try.underlying23 el3 rfl rfl (by omega) (by omega)) rfl rfl rfl ?_
        refine wl_storeI 1 _ hO1 rfl el3 rfl rfl rfl (by omega) rfl rfl (fun mhO2 hzhO2 hO2 => ?_)
        refine wl_nil ?_
        refine nx_q0 ?_
        refine nx_block ?_
        refine nx_then ?_
        refine ws_region ?_
        refine wl_x (ox_move rfl rfl) rfl rfl rfl ?_
        refine wl_x (ox_add rfl rfl rfl (by omega)) rfl rfl rfl ?_
        refine wl_x (ox_assign rfl rfl) rfl rfl rfl ?_
        refine wl_nil ?_
        refine nx_round k _ (by omega) ⟨y + 1, xorNext r, _, mhO2, rfl, rfl, rfl, by omega, by omega, hO2, by omega, ?_⟩ (by repeat (first | exact trivial | refine ⟨rfl, ?_⟩))
        rw [← hR]
        show bkRest _ _ _ _ k _ = bkRest _ _ _ _ k (breakStep _ _ _ _ _)
        unfold breakStep
        simp only [ho]
        rw [if_pos (by omega)]; rfl
      · skip
        refine ws_skip ?_
        refine nx_then ?_
        refine ws_drawP 16 [false, false, true, true, true, true] fol (by kernel_rfl) (by kernel_rfl) (by kernel_rfl) ?_
        refine pz_x rfl rfl rfl rfl (px_move rfl rfl) ?_
        refine pz_x rfl rfl rfl rfl (px_move rfl rfl) ?_
        refine pz_x rfl rfl rfl rfl (px_move rfl rfl) ?_
        refine pz_x rfl rfl rfl rfl (px_add rfl rfl rfl (by omega)) ?_
        refine ⟨rfl, ?_⟩
        simp only [zapL, zap, List.cons_append, List.nil_append, List.take_succ_cons, List.take_zero, List.drop_succ_cons, List.drop_zero, List.take_nil, List.drop_nil]
        refine wr_x (ox_move rfl rfl) rfl rfl ?_
        refine wr_x (ox_move rfl rfl) rfl rfl ?_
        refine wr_z rfl rfl rfl ?_
        refine wr_z rfl rfl rfl ?_
        refine wr_z rfl rfl rfl ?_
        refine wr_z rfl rfl rfl ?_
        refine wr_x (ox_move rfl rfl) rfl rfl ?_
        refine wr_x (ox_move rfl rfl) rfl rfl ?_
        refine wr_x (ox_move rfl rfl) rfl rfl ?_
        refine wr_x (ox_add rfl rfl rfl (by omega)) rfl rfl ?_
        first | refine wr_x (ox_index (a + ot) rfl Try.underlying23 el3 rfl rfl (by omega) (by omega)) rfl rfl ?_ | refine wr_x (ox_indexR (a + ot) (hO0.rd (.tail _ (.head _))) rfl Try.underlying23 el3 rfl rfl (by omega) (by omega)) rfl rfl ?_
        refine wr_x (ox_load rfl Try.underlying3 rfl rfl (by first | exact hO0.get (.tail _ (.head _)) (by omega))) rfl rfl ?_
        refine wr_x (ox_move rfl rfl) rfl rfl ?_
        refine wr_x (ox_move rfl rfl) rfl rfl ?_
        first | refine wr_x (ox_index (a + (b - a) / 4 * 2 - 1 + (3 - (k + 1))) rfl Try.underlying23 el3 rfl rfl (by omega) (by omega)) rfl rfl ?_ | refine wr_x (ox_indexR (a + (b - a) / 4 * 2 - 1 + (3 - (k + 1))) (hO0.rd (.tail _ (.head _))) rfl Try.underlying23 el3 rfl rfl (by omega) (by omega)) rfl rfl ?_
        refine wr_x (ox_load rfl Try.underlying3 rfl rfl (by first | exact hO0.get (.tail _ (.head _)) (by omega))) rfl rfl ?_
        refine wr_nil ?_
        first | refine wl_x (ox_index (a + (b - a) / 4 * 2 - 1 + (3 - (k + 1))) rfl Try.underlying23 el3 rfl rfl (by omega) (by omega)) rfl rfl rfl ?_ | refine wl_x (ox_indexR (a + (b - a) / 4 * 2 - 1 + (3 - (k + 1))) (hO0.rd (.tail _ (.head _))) rfl Try.underlying23 el3 rfl rfl (by omega) (by omega)) rfl rfl rfl ?_
        refine wl_storeI 1 _ hO0 rfl el3 rfl rfl rfl (by omega) rfl rfl (fun mhO1 hzhO1 hO1 => ?_)
        first | refine wl_x (ox_index (a + ot) rfl Try.underlying23 el3 rfl rfl (by omega) (by omega)) rfl rfl rfl ?_ | refine wl_x (ox_indexR (a + ot) (hO1.rd (.tail _ (.head _))) rfl Try.underlying23 el3 rfl rfl (by omega) (by omega)) rfl rfl rfl ?_
        refine wl_storeI 1 _ hO1 rfl el3 rfl rfl rfl (by omega) rfl rfl (fun mhO2 hzhO2 hO2 => ?_)
        refine wl_nil ?_
        refine nx_q0 ?_
        refine nx_block ?_
        refine nx_then ?_
        refine ws_region ?_
        refine wl_x (ox_move rfl rfl) rfl rfl rfl ?_
        refine wl_x (ox_add rfl rfl rfl (by omega)) rfl rfl rfl ?_
        refine wl_x (ox_assign rfl rfl) rfl rfl rfl ?_
        refine wl_nil ?_
        refine nx_round k _ (by omega) ⟨y + 1, xorNext r, _, mhO2, rfl, rfl, rfl, by omega, by omega, hO2, by omega, ?_⟩ (by repeat (first | exact trivial | refine ⟨rfl, ?_⟩))
        rw [← hR]
        show bkRest _ _ _ _ k _ = bkRest _ _ _ _ k (breakStep _ _ _ _ _)
        unfold breakStep
        simp only [ho]
        rw [if_neg (by omega)]; rfl
    · skip
      refine ws_exit ?_
      refine nx_then_exit ?_
      refine nx_then_exit ?_
      refine nx_block_exit ?_
      have hn0 : n = 0 := by omega
      subst hn0
      refine nx_drop ?_
      exact nx_end0 rfl (⟨rfl, m0, rfl, by rw [← hR]; exact hO0⟩)
  · skip
    refine ws_skip ?_
    exact nx_end0 rfl (⟨rfl, m, rfl, by unfold breakPatterns; simp only [if_neg (show ¬ b - a ≥ 8 by omega)]; exact hO⟩)
end Go.Proofs.Ythdkhnjnhhofgaa

/- Walks: the library's sort at integers: the partial insertion sort. -/
set_option linter.unusedSimpArgs false
set_option linter.unusedVariables false
set_option maxRecDepth 100000
namespace Go.Proofs.Ythdkhnjnhhofgaa
open Go.Eng Go.RowKit Go.Sort

theorem scanSorted_step {d : Array Int} {b i : Nat} (h1 : i < b) (h2 : (!ltInt d[i]! d[i - 1]!) = true) : scanSorted ltInt d b i = scanSorted ltInt d b (i + 1) := by
  conv => lhs; unfold scanSorted
  rw [if_pos (by rw [h2]; simp [h1])]
theorem scanSorted_stop {d : Array Int} {b i : Nat} (h : ¬ i < b ∨ (!ltInt d[i]! d[i - 1]!) = false) : scanSorted ltInt d b i = i := by
  unfold scanSorted
  rw [if_neg (by rcases h with h | h <;> rw [Bool.and_eq_true] <;> simp [h])]
theorem shiftDown_size : ∀ (j : Nat) (d : Array Int), (shiftDown ltInt j d).size = d.size
  | 0, d => rfl
  | j + 1, d => by unfold shiftDown; split; · rfl
                   · rw [shiftDown_size j, size_swp]
theorem shiftUp_size (b : Nat) : ∀ (n j : Nat) (d : Array Int), b - j ≤ n → (shiftUp ltInt b j d).size = d.size
  | 0, j, d, h => by unfold shiftUp; rw [if_neg (by omega)]
  | n + 1, j, d, h => by
    unfold shiftUp
    split
    · split
      · rfl
      · rw [shiftUp_size b n _ _ (by omega), size_swp]
    · rfl

theorem partialIns_ok (d : Array Int) (v : Value) (m : Hp) (hO : OI m v d) (a b : Nat) (hab : a < b) (hb : b ≤ d.size) (hsz : d.size ≤ 2305843009213693951) (h : Hp) {a' b' : Int} (ea : a' = a) (eb : b' = b) :
    FnT Try.prog 58 #[v, .int .i64 a', .int .i64 b'] h [m] (fun r h' ms' => r = .bool (partialInsertionSort ltInt d a b).2 ∧ Left h v (partialInsertionSort ltInt d a b).1 r h' ms') := by
  subst ea eb
  refine fn_enter Try.func58 Try.ntmps58 rfl rfl (fun w0 hw0 => ?_)
  simp only [argS]
  refine ws_seq ?_
  refine ws_region ?_
  refine wl_x (ox_assign rfl rfl) rfl rfl rfl ?_
  refine wl_nil ?_
  refine nx_then ?_
  refine ws_seq ?_
  refine ws_region ?_
  refine wl_x (ox_move rfl rfl) rfl rfl rfl ?_
  refine wl_x (ox_add rfl rfl rfl (by omega)) rfl rfl rfl ?_
  refine wl_x (ox_assign rfl rfl) rfl rfl rfl ?_
  refine wl_nil ?_
  refine nx_then ?_
  refine ws_seq ?_
  refine ws_seq ?_
  refine ws_region ?_
  refine wl_x (ox_assign rfl rfl) rfl rfl rfl ?_
  refine wl_nil ?_
  refine nx_then ?_
  refine ws_block ?_
  refine ws_loop (fun n s h' ms' => ∃ (i : Nat) (y x : Int) (d' : Array Int) (m : Hp), s = [(0, v), (1, .int .i64 a), (2, .int .i64 b), (7, .int .i64 y), (8, .int .i64 x)] ∧ h = h' ∧ ms' = [m] ∧ y = i ∧ x = 5 - (n : Int) ∧ n ≤ 5 ∧ a < i ∧ i ≤ b ∧ OI m v d' ∧ d'.size = d.size ∧ partialIns ltInt a b n i d' = partialInsertionSort ltInt d a b)
    5 _ ⟨a + 1, (a : Int) + 1, 0, d, m, rfl, rfl, rfl, by omega, by omega, by omega, by omega, by omega, hO, rfl, rfl⟩ (by repeat (first | exact trivial | refine ⟨rfl, ?_⟩)) ?_
  rintro n s h' ms' ⟨i, y, x, d0, m0, rfl, rfl, rfl, hy, hx, hn, hai, hib, hO0, hds, hR⟩
  refine ws_seq ?_
  refine ws_seq ?_
  refine ws_region ?_
  refine wl_x (ox_move rfl rfl) rfl rfl rfl ?_
  refine wl_x (ox_lss rfl rfl rfl) rfl rfl rfl ?_
  refine wl_nil ?_
  refine nx_then ?_
  refine ws_if rfl (fun hlt => ?_) (fun hlt => ?_)
  · skip
    obtain ⟨sn, rfl⟩ : ∃ sn, n = sn + 1 := ⟨n - 1, by omega⟩
    refine ws_skip ?_
    refine nx_then ?_
    refine ws_seq ?_
    refine ws_block ?_
    refine ws_cut (fun s h' ms' => ∃ (i2 : Nat) (z : Int), s = [(0, v), (1, .int .i64 a), (2, .int .i64 b), (7, .int .i64 z), (8, .int .i64 x)] ∧ h = h' ∧ ms' = [m0] ∧ z = i2 ∧ i ≤ i2 ∧ i2 ≤ b ∧ i2 = scanSorted ltInt d0 b i) ?_ (fun s h ms hI => ?_)
    · skip
      refine ws_block ?_
      refine ws_loop (fun n s h' ms' => ∃ (i1 : Nat) (z : Int), n = b - i1 ∧ s = [(0, v), (1, .int .i64 a), (2, .int .i64 b), (7, .int .i64 z), (8, .int .i64 x)] ∧ h = h' ∧ ms' = [m0] ∧ z = i1 ∧ i ≤ i1 ∧ i1 ≤ b ∧ scanSorted ltInt d0 b i1 = scanSorted ltInt d0 b i)
        _ _ ⟨i, y, rfl, rfl, rfl, rfl, hy, by omega, by omega, rfl⟩ (by repeat (first | exact trivial | refine ⟨rfl, ?_⟩)) ?_
      rintro n s h' ms' ⟨i1, z, rfl, rfl, rfl, rfl, hz, hi1, hi1b, hS⟩
      refine ws_seq ?_
      refine ws_seq ?_
      refine ws_draw 13 fol (by kernel_rfl) rfl ?_
      simp only [List.take_succ_cons, List.take_zero, List.drop_succ_cons, List.drop_zero, List.take_nil, List.drop_nil]
      refine wr_x (ox_move rfl rfl) rfl rfl ?_
      refine wr_x (ox_move rfl rfl) rfl rfl ?_
      refine wr_x (ox_lss rfl rfl rfl) rfl rfl ?_
      refine wr_x (ox_move rfl rfl) rfl rfl ?_
      refine wr_split (t := 20) rfl (fun hle => ?_) (fun hle => ?_)
      · skip
        refine wr_gx (ox_move rfl rfl) rfl rfl rfl rfl ?_
        refine wr_gx (ox_move rfl rfl) rfl rfl rfl rfl ?_
        first | refine wr_gx (ox_index i1 rfl Try.underlying23 el3 rfl rfl (by omega) (by omega)) rfl rfl rfl rfl ?_ | refine wr_gx (ox_indexR i1 (hO0.rd (.head _)) rfl Try.underlying23 el3 rfl rfl (by omega) (by omega)) rfl rfl rfl rfl ?_
        refine wr_gx (ox_load rfl Try.underlying3 rfl rfl (by first | exact hO0.get (.head _) (by omega))) rfl rfl rfl rfl ?_
        refine wr_gx (ox_move rfl rfl) rfl rfl rfl rfl ?_
        refine wr_gx (ox_move rfl rfl) rfl rfl rfl rfl ?_
        refine wr_gx (ox_sub rfl rfl rfl (by omega)) rfl rfl rfl rfl ?_
        first | refine wr_gx (ox_index (i1 - 1) rfl Try.underlying23 el3 rfl rfl (by omega) (by omega)) rfl rfl rfl rfl ?_ | refine wr_gx (ox_indexR (i1 - 1) (hO0.rd (.head _)) rfl Try.underlying23 el3 rfl rfl (by omega) (by omega)) rfl rfl rfl rfl ?_
        refine wr_gx (ox_load rfl Try.underlying3 rfl rfl (by first | exact hO0.get (.head _) (by omega))) rfl rfl rfl rfl ?_
        refine wr_nil ?_
        refine wl_gx (ox_call rfl Try.call59 rfl (less_ok _ _ _ _)) rfl rfl rfl rfl rfl rfl ?_
        refine wl_gx (ox_not rfl rfl) rfl rfl rfl rfl rfl rfl ?_
        refine wl_x (ox_pick_t rfl rfl rfl) rfl rfl rfl ?_
        refine wl_nil ?_
        refine nx_then ?_
        refine ws_cond rfl (fun hp => ?_) (fun hp => ?_)
        · skip
          refine ws_skip ?_
          refine nx_then ?_
          refine ws_block ?_
          refine ws_region ?_
          refine wl_x (ox_move rfl rfl) rfl rfl rfl ?_
          refine wl_x (ox_add rfl rfl rfl (by omega)) rfl rfl rfl ?_
          refine wl_x (ox_assign rfl rfl) rfl rfl rfl ?_
          refine wl_nil ?_
          refine nx_block ?_
          refine nx_round (b - (i1 + 1)) _ (by omega) ⟨i1 + 1, z + 1, rfl, rfl, rfl, rfl, by omega, by omega, by omega, by rw [← hS]; exact (scanSorted_step (by omega) hp).symm⟩ (by repeat (first | exact trivial | refine ⟨rfl, ?_⟩))
        · skip
          refine ws_exit ?_
          refine nx_then_exit ?_
          refine nx_then_exit ?_
          refine nx_block_exit ?_
          refine nx_meet _ ⟨i1, z, rfl, rfl, rfl, hz, hi1, hi1b, by rw [← hS]; exact (scanSorted_stop (.inr hp)).symm⟩ (by repeat (first | exact trivial | refine ⟨rfl, ?_⟩))
      · skip
        refine wr_skip rfl rfl rfl rfl rfl ?_
        refine wr_skip rfl rfl rfl rfl rfl ?_
        refine wr_skip rfl rfl rfl rfl rfl ?_
        refine wr_skip rfl rfl rfl rfl rfl ?_
        refine wr_skip rfl rfl rfl rfl rfl ?_
        refine wr_skip rfl rfl rfl rfl rfl ?_
        refine wr_skip rfl rfl rfl rfl rfl ?_
        refine wr_skip rfl rfl rfl rfl rfl ?_
        refine wr_skip rfl rfl rfl rfl rfl ?_
        refine wr_nil ?_
        refine wl_skip rfl rfl rfl rfl rfl rfl rfl ?_
        refine wl_skip rfl rfl rfl rfl rfl rfl rfl ?_
        refine wl_x (ox_pick_f rfl rfl rfl) rfl rfl rfl ?_
        refine wl_nil ?_
        refine nx_then ?_
        refine ws_cond_f rfl ?_
        refine ws_exit ?_
        refine nx_then_exit ?_
        refine nx_then_exit ?_
        refine nx_block_exit ?_
        refine nx_meet _ ⟨i1, z, rfl, rfl, rfl, hz, hi1, hi1b, by rw [← hS]; exact (scanSorted_stop (.inl (by omega))).symm⟩ (by repeat (first | exact trivial | refine ⟨rfl, ?_⟩))
    · skip
      obtain ⟨i2, z, rfl, rfl, rfl, hz, hi2, hi2b, hu⟩ := hI
      refine ws_seq ?_
      refine ws_seq ?_
      refine ws_region ?_
      refine wl_x (ox_move rfl rfl) rfl rfl rfl ?_
      refine wl_x (ox_move rfl rfl) rfl rfl rfl ?_
      refine wl_x (ox_eqi rfl rfl rfl) rfl rfl rfl ?_
      refine wl_nil ?_
      refine nx_then ?_
      refine ws_if rfl (fun heq => ?_) (fun heq => ?_)
      · skip
        refine ws_seq ?_
        refine ws_region ?_
        refine wl_x (ox_assign rfl rfl) rfl rfl rfl ?_
        refine wl_nil ?_
        refine nx_then ?_
        refine ws_ret ?_
        refine nx_then_ret ?_
        refine nx_block_ret ?_
        refine nx_then_ret ?_
        refine nx_then_ret ?_
        refine nx_block_ret ?_
        refine nx_then_ret ?_
        have hE : partialIns ltInt a b (sn + 1) i d0 = (d0, true) := by unfold partialIns; simp only [← hu]; rw [if_pos (by omega)]
        rw [← hR, hE]
        exact nx_ret1 rfl rfl (⟨rfl, rfl, m0, rfl, hO0⟩)
      · skip
        refine ws_skip ?_
        refine nx_then ?_
        refine ws_seq ?_
        refine ws_seq ?_
        refine ws_region ?_
        refine wl_x (ox_move rfl rfl) rfl rfl rfl ?_
        refine wl_x (ox_move rfl rfl) rfl rfl rfl ?_
        refine wl_x (ox_sub rfl rfl rfl (by omega)) rfl rfl rfl ?_
        refine wl_x (ox_lss rfl rfl rfl) rfl rfl rfl ?_
        refine wl_nil ?_
        refine nx_then ?_
        refine ws_if rfl (fun h50 => ?_) (fun h50 => ?_)
        · skip
          refine ws_seq ?_
          refine ws_region ?_
          refine wl_x (ox_assign rfl rfl) rfl rfl rfl ?_
          refine wl_nil ?_
          refine nx_then ?_
          refine ws_ret ?_
          refine nx_then_ret ?_
          refine nx_block_ret ?_
          refine nx_then_ret ?_
          refine nx_then_ret ?_
          refine nx_block_ret ?_
          refine nx_then_ret ?_
          have hE : partialIns ltInt a b (sn + 1) i d0 = (d0, false) := by unfold partialIns; simp only [← hu]; rw [if_neg (by omega), if_pos (by omega)]
          rw [← hR, hE]
          exact nx_ret1 rfl rfl (⟨rfl, rfl, m0, rfl, hO0⟩)
        · skip
          refine ws_skip ?_
          refine nx_then ?_
          refine ws_seq ?_
          refine ws_drawP 14 [false, false, true, true, true] fol (by kernel_rfl) (by kernel_rfl) (by kernel_rfl) ?_
          refine pz_x rfl rfl rfl rfl (px_move rfl rfl) ?_
          refine pz_x rfl rfl rfl rfl (px_move rfl rfl) ?_
          refine pz_x rfl rfl rfl rfl (px_sub rfl rfl rfl (by omega)) ?_
          refine ⟨rfl, ?_⟩
          simp only [zapL, zap, List.cons_append, List.nil_append, List.take_succ_cons, List.take_zero, List.drop_succ_cons, List.drop_zero, List.take_nil, List.drop_nil]
          refine wr_x (ox_move rfl rfl) rfl rfl ?_
          refine wr_x (ox_move rfl rfl) rfl rfl ?_
          refine wr_z rfl rfl rfl ?_
          refine wr_z rfl rfl rfl ?_
          refine wr_z rfl rfl rfl ?_
          refine wr_x (ox_move rfl rfl) rfl rfl ?_
          refine wr_x (ox_move rfl rfl) rfl rfl ?_
          refine wr_x (ox_sub rfl rfl rfl (by omega)) rfl rfl ?_
          first | refine wr_x (ox_index (i2 - 1) rfl Try.underlying23 el3 rfl rfl (by omega) (by omega)) rfl rfl ?_ | refine wr_x (ox_indexR (i2 - 1) (hO0.rd (.head _)) rfl Try.underlying23 el3 rfl rfl (by omega) (by omega)) rfl rfl ?_
          refine wr_x (ox_load rfl Try.underlying3 rfl rfl (by first | exact hO0.get (.head _) (by omega))) rfl rfl ?_
          refine wr_x (ox_move rfl rfl) rfl rfl ?_
          refine wr_x (ox_move rfl rfl) rfl rfl ?_
          first | refine wr_x (ox_index i2 rfl Try.underlying23 el3 rfl rfl (by omega) (by omega)) rfl rfl ?_ | refine wr_x (ox_indexR i2 (hO0.rd (.head _)) rfl Try.underlying23 el3 rfl rfl (by omega) (by omega)) rfl rfl ?_
          refine wr_x (ox_load rfl Try.underlying3 rfl rfl (by first | exact hO0.get (.head _) (by omega))) rfl rfl ?_
          refine wr_nil ?_
          first | refine wl_x (ox_index i2 rfl Try.underlying23 el3 rfl rfl (by omega) (by omega)) rfl rfl rfl ?_ | refine wl_x (ox_indexR i2 (hO0.rd (.head _)) rfl Try.underlying23 el3 rfl rfl (by omega) (by omega)) rfl rfl rfl ?_
          refine wl_storeI 0 _ hO0 rfl el3 rfl rfl rfl (by omega) rfl rfl (fun mhO1 hzhO1 hO1 => ?_)
          first | refine wl_x (ox_index (i2 - 1) rfl Try.underlying23 el3 rfl rfl (by omega) (by omega)) rfl rfl rfl ?_ | refine wl_x (ox_indexR (i2 - 1) (hO1.rd (.head _)) rfl Try.underlying23 el3 rfl rfl (by omega) (by omega)) rfl rfl rfl ?_
          refine wl_storeI 0 _ hO1 rfl el3 rfl rfl rfl (by omega) rfl rfl (fun mhO2 hzhO2 hO2 => ?_)
          refine wl_nil ?_
          refine nx_q0 ?_
          refine nx_then ?_
          have hE : partialIns ltInt a b (sn + 1) i d0 = partialIns ltInt a b sn i2 (if b - i2 ≥ 2 then shiftUp ltInt b (i2 + 1) (if i2 - a ≥ 2 then shiftDown ltInt (i2 - 1) (swp d0 i2 (i2 - 1)) else swp d0 i2 (i2 - 1)) else (if i2 - a ≥ 2 then shiftDown ltInt (i2 - 1) (swp d0 i2 (i2 - 1)) else swp d0 i2 (i2 - 1))) := by
            conv => lhs; unfold partialIns
            simp only [← hu]; rw [if_neg (by omega), if_neg (by omega)]
          rw [hE] at hR
          obtain ⟨d1, hd1⟩ : ∃ d1, d1 = swp d0 i2 (i2 - 1) := ⟨_, rfl⟩
          have hOd : OI mhO2 v d1 := by rw [hd1]; exact hO2
          have hds1 : d1.size = d.size := by rw [hd1, size_swp]; exact hds
          rw [← hd1] at hR
          obtain ⟨m1, rfl⟩ : ∃ m, m = mhO2 := ⟨_, rfl⟩
          clear hE hd1 hO2 hzhO2
          refine ws_cut (fun s h' ms' => ∃ (d' : Array Int) (m : Hp), s = [(0, v), (1, .int .i64 a), (2, .int .i64 b), (7, .int .i64 z), (8, .int .i64 x)] ∧ h = h' ∧ ms' = [m] ∧ OI m v d' ∧ d' = (if i2 - a ≥ 2 then shiftDown ltInt (i2 - 1) d1 else d1)) ?_ (fun s h ms hI => ?_)
          · skip
            refine ws_seq ?_
            refine ws_region ?_
            refine wl_x (ox_move rfl rfl) rfl rfl rfl ?_
            refine wl_x (ox_move rfl rfl) rfl rfl rfl ?_
            refine wl_x (ox_sub rfl rfl rfl (by omega)) rfl rfl rfl ?_
            refine wl_x (ox_geq rfl rfl rfl) rfl rfl rfl ?_
            refine wl_nil ?_
            refine nx_then ?_
            refine ws_if rfl (fun h2 => ?_) (fun h2 => ?_)
            · skip
              refine ws_seq ?_
              refine ws_region ?_
              refine wl_x (ox_move rfl rfl) rfl rfl rfl ?_
              refine wl_x (ox_sub rfl rfl rfl (by omega)) rfl rfl rfl ?_
              refine wl_x (ox_assign rfl rfl) rfl rfl rfl ?_
              refine wl_nil ?_
              refine nx_then ?_
              refine ws_block ?_
              rw [if_pos (by omega)]
              refine ws_loop (fun n s h' ms' => ∃ (w : Int) (d' : Array Int) (m : Hp), s = [(0, v), (1, .int .i64 a), (2, .int .i64 b), (7, .int .i64 z), (8, .int .i64 x), (9, .int .i64 w)] ∧ h = h' ∧ ms' = [m] ∧ w = n ∧ n < i2 ∧ OI m v d' ∧ d'.size = d.size ∧ shiftDown ltInt n d' = shiftDown ltInt (i2 - 1) d1)
                (i2 - 1) _ ⟨z - 1, d1, m1, rfl, rfl, rfl, by omega, by omega, hOd, hds1, rfl⟩ (by repeat (first | exact trivial | refine ⟨rfl, ?_⟩)) ?_
              clear hO0 hds
              rintro n s h' ms' ⟨w, d0, m0, rfl, rfl, rfl, hw, hni, hO0, hds, hRd⟩
              refine ws_seq ?_
              refine ws_seq ?_
              refine ws_region ?_
              refine wl_x (ox_move rfl rfl) rfl rfl rfl ?_
              refine wl_x (ox_geq rfl rfl rfl) rfl rfl rfl ?_
              refine wl_nil ?_
              refine nx_then ?_
              refine ws_if rfl (fun hge => ?_) (fun hge => ?_)
              · skip
                obtain ⟨j, rfl⟩ : ∃ j, n = j + 1 := ⟨n - 1, by omega⟩
                refine ws_skip ?_
                refine nx_then ?_
                refine ws_seq ?_
                refine ws_block ?_
                refine ws_seq ?_
                refine ws_seq ?_
                refine ws_draw 9 fol (by kernel_rfl) rfl ?_
                simp only [List.take_succ_cons, List.take_zero, List.drop_succ_cons, List.drop_zero, List.take_nil, List.drop_nil]
                refine wr_x (ox_move rfl rfl) rfl rfl ?_
                refine wr_x (ox_move rfl rfl) rfl rfl ?_
                first | refine wr_x (ox_index (j + 1) rfl Try.underlying23 el3 rfl rfl (by omega) (by omega)) rfl rfl ?_ | refine wr_x (ox_indexR (j + 1) (hO0.rd (.head _)) rfl Try.underlying23 el3 rfl rfl (by omega) (by omega)) rfl rfl ?_
                refine wr_x (ox_load rfl Try.underlying3 rfl rfl (by first | exact hO0.get (.head _) (by omega))) rfl rfl ?_
                refine wr_x (ox_move rfl rfl) rfl rfl ?_
                refine wr_x (ox_move rfl rfl) rfl rfl ?_
                refine wr_x (ox_sub rfl rfl rfl (by omega)) rfl rfl ?_
                first | refine wr_x (ox_index ((j + 1) - 1) rfl Try.underlying23 el3 rfl rfl (by omega) (by omega)) rfl rfl ?_ | refine wr_x (ox_indexR ((j + 1) - 1) (hO0.rd (.head _)) rfl Try.underlying23 el3 rfl rfl (by omega) (by omega)) rfl rfl ?_
                refine wr_x (ox_load rfl Try.underlying3 rfl rfl (by first | exact hO0.get (.head _) (by omega))) rfl rfl ?_
                refine wr_nil ?_
                refine wl_x (ox_call rfl Try.call59 rfl (less_ok _ _ _ _)) rfl rfl rfl ?_
                refine wl_x (ox_not rfl rfl) rfl rfl rfl ?_
                refine wl_nil ?_
                refine nx_then ?_
                refine ws_cond rfl (fun hl => ?_) (fun hl => ?_)
                · skip
                  refine ws_exit ?_
                  refine nx_then_exit ?_
                  refine nx_block_out rfl ?_
                  refine nx_then_exit ?_
                  refine nx_then_exit ?_
                  refine nx_block_exit ?_
                  refine nx_meet _ ⟨d0, m0, rfl, rfl, rfl, hO0, by rw [← hRd]; unfold shiftDown; rw [if_pos (show (!ltInt d0[j + 1]! d0[j]!) = true from hl)]⟩ (by repeat (first | exact trivial | refine ⟨rfl, ?_⟩))
                · skip
                  refine ws_skip ?_
                  refine nx_then ?_
                  refine ws_drawP 14 [false, false, true, true, true] fol (by kernel_rfl) (by kernel_rfl) (by kernel_rfl) ?_
                  refine pz_x rfl rfl rfl rfl (px_move rfl rfl) ?_
                  refine pz_x rfl rfl rfl rfl (px_move rfl rfl) ?_
                  refine pz_x rfl rfl rfl rfl (px_sub rfl rfl rfl (by omega)) ?_
                  refine ⟨rfl, ?_⟩
                  simp only [zapL, zap, List.cons_append, List.nil_append, List.take_succ_cons, List.take_zero, List.drop_succ_cons, List.drop_zero, List.take_nil, List.drop_nil]
                  refine wr_x (ox_move rfl rfl) rfl rfl ?_
                  refine wr_x (ox_move rfl rfl) rfl rfl ?_
                  refine wr_z rfl rfl rfl ?_
                  refine wr_z rfl rfl rfl ?_
                  refine wr_z rfl rfl rfl ?_
                  refine wr_x (ox_move rfl rfl) rfl rfl ?_
                  refine wr_x (ox_move rfl rfl) rfl rfl ?_
                  refine wr_x (ox_sub rfl rfl rfl (by omega)) rfl rfl ?_
                  first | refine wr_x (ox_index ((j + 1) - 1) rfl Try.underlying23 el3 rfl rfl (by omega) (by omega)) rfl rfl ?_ | refine wr_x (ox_indexR ((j + 1) - 1) (hO0.rd (.head _)) rfl Try.underlying23 el3 rfl rfl (by omega) (by omega)) rfl rfl ?_
                  refine wr_x (ox_load rfl Try.underlying3 rfl rfl (by first | exact hO0.get (.head _) (by omega))) rfl rfl ?_
                  refine wr_x (ox_move rfl rfl) rfl rfl ?_
                  refine wr_x (ox_move rfl rfl) rfl rfl ?_
                  first | refine wr_x (ox_index (j + 1) rfl Try.underlying23 el3 rfl rfl (by omega) (by omega)) rfl rfl ?_ | refine wr_x (ox_indexR (j + 1) (hO0.rd (.head _)) rfl Try.underlying23 el3 rfl rfl (by omega) (by omega)) rfl rfl ?_
                  refine wr_x (ox_load rfl Try.underlying3 rfl rfl (by first | exact hO0.get (.head _) (by omega))) rfl rfl ?_
                  refine wr_nil ?_
                  first | refine wl_x (ox_index (j + 1) rfl Try.underlying23 el3 rfl rfl (by omega) (by omega)) rfl rfl rfl ?_ | refine wl_x (ox_indexR (j + 1) (hO0.rd (.head _)) rfl Try.underlying23 el3 rfl rfl (by omega) (by omega)) rfl rfl rfl ?_
                  refine wl_storeI 0 _ hO0 rfl el3 rfl rfl rfl (by omega) rfl rfl (fun mhO1 hzhO1 hO1 => ?_)
                  first | refine wl_x (ox_index ((j + 1) - 1) rfl Try.underlying23 el3 rfl rfl (by omega) (by omega)) rfl rfl rfl ?_ | refine wl_x (ox_indexR ((j + 1) - 1) (hO1.rd (.head _)) rfl Try.underlying23 el3 rfl rfl (by omega) (by omega)) rfl rfl rfl ?_
                  refine wl_storeI 0 _ hO1 rfl el3 rfl rfl rfl (by omega) rfl rfl (fun mhO2 hzhO2 hO2 => ?_)
                  refine wl_nil ?_
                  refine nx_q0 ?_
                  refine nx_block ?_
                  refine nx_then ?_
                  refine ws_region ?_
                  refine wl_x (ox_move rfl rfl) rfl rfl rfl ?_
                  refine wl_x (ox_sub rfl rfl rfl (by omega)) rfl rfl rfl ?_
                  refine wl_x (ox_assign rfl rfl) rfl rfl rfl ?_
                  refine wl_nil ?_
                  refine nx_round j _ (by omega) ⟨w - 1, _, mhO2, rfl, rfl, rfl, by omega, by omega, hO2, by omega, ?_⟩ (by repeat (first | exact trivial | refine ⟨rfl, ?_⟩))
                  rw [← hRd]; conv => rhs; unfold shiftDown
                  rw [if_neg (by rw [show (!ltInt d0[j + 1]! d0[j]!) = false from hl]; decide)]; rfl
              · skip
                refine ws_exit ?_
                refine nx_then_exit ?_
                refine nx_then_exit ?_
                refine nx_block_exit ?_
                have hn0 : n = 0 := by omega
                subst hn0
                refine nx_meet _ ⟨d0, m0, rfl, rfl, rfl, hO0, by rw [← hRd]; rfl⟩ (by repeat (first | exact trivial | refine ⟨rfl, ?_⟩))
            · skip
              refine ws_skip ?_
              refine nx_meet _ ⟨d1, m1, rfl, rfl, rfl, hOd, by rw [if_neg (by omega)]⟩ (by repeat (first | exact trivial | refine ⟨rfl, ?_⟩))
          · skip
            obtain ⟨d2, m2, rfl, rfl, rfl, hO0', hd2⟩ := hI
            have hds2 : d2.size = d.size := by rw [hd2]; split; · rw [shiftDown_size]; exact hds1
                                               · exact hds1
            rw [← hd2] at hR
            clear hd2 hOd hds1 hO0 hds
            refine ws_seq ?_
            refine ws_region ?_
            refine wl_x (ox_move rfl rfl) rfl rfl rfl ?_
            refine wl_x (ox_move rfl rfl) rfl rfl rfl ?_
            refine wl_x (ox_sub rfl rfl rfl (by omega)) rfl rfl rfl ?_
            refine wl_x (ox_geq rfl rfl rfl) rfl rfl rfl ?_
            refine wl_nil ?_
            refine nx_then ?_
            refine ws_if rfl (fun h2 => ?_) (fun h2 => ?_)
            · skip
              refine ws_seq ?_
              refine ws_region ?_
              refine wl_x (ox_move rfl rfl) rfl rfl rfl ?_
              refine wl_x (ox_add rfl rfl rfl (by omega)) rfl rfl rfl ?_
              refine wl_x (ox_assign rfl rfl) rfl rfl rfl ?_
              refine wl_nil ?_
              refine nx_then ?_
              refine ws_block ?_
              rw [if_pos (by omega)] at hR
              refine ws_loop (fun n s h' ms' => ∃ (j : Nat) (w : Int) (d' : Array Int) (m : Hp), n = b - j ∧ s = [(0, v), (1, .int .i64 a), (2, .int .i64 b), (7, .int .i64 z), (8, .int .i64 x), (10, .int .i64 w)] ∧ h = h' ∧ ms' = [m] ∧ w = j ∧ i2 < j ∧ j ≤ b ∧ OI m v d' ∧ d'.size = d.size ∧ shiftUp ltInt b j d' = shiftUp ltInt b (i2 + 1) d2)
                _ _ ⟨i2 + 1, z + 1, d2, m2, rfl, rfl, rfl, rfl, by omega, by omega, by omega, hO0', hds2, rfl⟩ (by repeat (first | exact trivial | refine ⟨rfl, ?_⟩)) ?_
              rintro n s h' ms' ⟨j, w, d0, m0, rfl, rfl, rfl, rfl, hw, hij, hjb, hO0, hds, hRd⟩
              rw [← hRd] at hR
              refine ws_seq ?_
              refine ws_seq ?_
              refine ws_region ?_
              refine wl_x (ox_move rfl rfl) rfl rfl rfl ?_
              refine wl_x (ox_move rfl rfl) rfl rfl rfl ?_
              refine wl_x (ox_lss rfl rfl rfl) rfl rfl rfl ?_
              refine wl_nil ?_
              refine nx_then ?_
              refine ws_if rfl (fun hge => ?_) (fun hge => ?_)
              · skip
                refine ws_skip ?_
                refine nx_then ?_
                refine ws_seq ?_
                refine ws_block ?_
                refine ws_seq ?_
                refine ws_seq ?_
                refine ws_draw 9 fol (by kernel_rfl) rfl ?_
                simp only [List.take_succ_cons, List.take_zero, List.drop_succ_cons, List.drop_zero, List.take_nil, List.drop_nil]
                refine wr_x (ox_move rfl rfl) rfl rfl ?_
                refine wr_x (ox_move rfl rfl) rfl rfl ?_
                first | refine wr_x (ox_index j rfl Try.underlying23 el3 rfl rfl (by omega) (by omega)) rfl rfl ?_ | refine wr_x (ox_indexR j (hO0.rd (.head _)) rfl Try.underlying23 el3 rfl rfl (by omega) (by omega)) rfl rfl ?_
                refine wr_x (ox_load rfl Try.underlying3 rfl rfl (by first | exact hO0.get (.head _) (by omega))) rfl rfl ?_
                refine wr_x (ox_move rfl rfl) rfl rfl ?_
                refine wr_x (ox_move rfl rfl) rfl rfl ?_
                refine wr_x (ox_sub rfl rfl rfl (by omega)) rfl rfl ?_
                first | refine wr_x (ox_index (j - 1) rfl Try.underlying23 el3 rfl rfl (by omega) (by omega)) rfl rfl ?_ | refine wr_x (ox_indexR (j - 1) (hO0.rd (.head _)) rfl Try.underlying23 el3 rfl rfl (by omega) (by omega)) rfl rfl ?_
                refine wr_x (ox_load rfl Try.underlying3 rfl rfl (by first | exact hO0.get (.head _) (by omega))) rfl rfl ?_
                refine wr_nil ?_
                refine wl_x (ox_call rfl Try.call59 rfl (less_ok _ _ _ _)) rfl rfl rfl ?_
                refine wl_x (ox_not rfl rfl) rfl rfl rfl ?_
                refine wl_nil ?_
                refine nx_then ?_
                refine ws_cond rfl (fun hl => ?_) (fun hl => ?_)
                · skip
                  refine ws_exit ?_
                  refine nx_then_exit ?_
                  refine nx_block_out rfl ?_
                  refine nx_then_exit ?_
                  refine nx_then_exit ?_
                  refine nx_block_exit ?_
                  refine nx_block ?_
                  refine nx_then ?_
                  refine ws_region ?_
                  refine wl_x (ox_move rfl rfl) rfl rfl rfl ?_
                  refine wl_x (ox_add rfl rfl rfl (by omega)) rfl rfl rfl ?_
                  refine wl_x (ox_assign rfl rfl) rfl rfl rfl ?_
                  refine wl_nil ?_
                  refine nx_round sn _ (by omega) ⟨i2, z, x + 1, d0, m0, rfl, rfl, rfl, by omega, by omega, by omega, by omega, by omega, hO0, hds, by rw [← hR]; conv => rhs; unfold shiftUp; rw [if_pos (show j < b by omega), if_pos hl]⟩ (by repeat (first | exact trivial | refine ⟨rfl, ?_⟩))
                · skip
                  refine ws_skip ?_
                  refine nx_then ?_
                  refine ws_drawP 14 [false, false, true, true, true] fol (by kernel_rfl) (by kernel_rfl) (by kernel_rfl) ?_
                  refine pz_x rfl rfl rfl rfl (px_move rfl rfl) ?_
                  refine pz_x rfl rfl rfl rfl (px_move rfl rfl) ?_
                  refine pz_x rfl rfl rfl rfl (px_sub rfl rfl rfl (by omega)) ?_
                  refine ⟨rfl, ?_⟩
                  simp only [zapL, zap, List.cons_append, List.nil_append, List.take_succ_cons, List.take_zero, List.drop_succ_cons, List.drop_zero, List.take_nil, List.drop_nil]
                  refine wr_x (ox_move rfl rfl) rfl rfl ?_
                  refine wr_x (ox_move rfl rfl) rfl rfl ?_
                  refine wr_z rfl rfl rfl ?_
                  refine wr_z rfl rfl rfl ?_
                  refine wr_z rfl rfl rfl ?_
                  refine wr_x (ox_move rfl rfl) rfl rfl ?_
                  refine wr_x (ox_move rfl rfl) rfl rfl ?_
                  refine wr_x (ox_sub rfl rfl rfl (by omega)) rfl rfl ?_
                  first | refine wr_x (ox_index (j - 1) rfl Try.underlying23 el3 rfl rfl (by omega) (by omega)) rfl rfl ?_ | refine wr_x (ox_indexR (j - 1) (hO0.rd (.head _)) rfl Try.underlying23 el3 rfl rfl (by omega) (by omega)) rfl rfl ?_
                  refine wr_x (ox_load rfl Try.underlying3 rfl rfl (by first | exact hO0.get (.head _) (by omega))) rfl rfl ?_
                  refine wr_x (ox_move rfl rfl) rfl rfl ?_
                  refine wr_x (ox_move rfl rfl) rfl rfl ?_
                  first | refine wr_x (ox_index j rfl Try.underlying23 el3 rfl rfl (by omega) (by omega)) rfl rfl ?_ | refine wr_x (ox_indexR j (hO0.rd (.head _)) rfl Try.underlying23 el3 rfl rfl (by omega) (by omega)) rfl rfl ?_
                  refine wr_x (ox_load rfl Try.underlying3 rfl rfl (by first | exact hO0.get (.head _) (by omega))) rfl rfl ?_
                  refine wr_nil ?_
                  first | refine wl_x (ox_index j rfl Try.underlying23 el3 rfl rfl (by omega) (by omega)) rfl rfl rfl ?_ | refine wl_x (ox_indexR j (hO0.rd (.head _)) rfl Try.underlying23 el3 rfl rfl (by omega) (by omega)) rfl rfl rfl ?_
                  refine wl_storeI 0 _ hO0 rfl el3 rfl rfl rfl (by omega) rfl rfl (fun mhO1 hzhO1 hO1 => ?_)
                  first | refine wl_x (ox_index (j - 1) rfl Try.underlying23 el3 rfl rfl (by omega) (by omega)) rfl rfl rfl ?_ | refine wl_x (ox_indexR (j - 1) (hO1.rd (.head _)) rfl Try.underlying23 el3 rfl rfl (by omega) (by omega)) rfl rfl rfl ?_
                  refine wl_storeI 0 _ hO1 rfl el3 rfl rfl rfl (by omega) rfl rfl (fun mhO2 hzhO2 hO2 => ?_)
                  refine wl_nil ?_
                  refine nx_q0 ?_
                  refine nx_block ?_
                  refine nx_then ?_
                  refine ws_region ?_
                  refine wl_x (ox_move rfl rfl) rfl rfl rfl ?_
                  refine wl_x (ox_add rfl rfl rfl (by omega)) rfl rfl rfl ?_
                  refine wl_x (ox_assign rfl rfl) rfl rfl rfl ?_
                  refine wl_nil ?_
                  refine nx_round (b - (j + 1)) _ (by omega) ⟨j + 1, w + 1, _, mhO2, rfl, rfl, rfl, rfl, by omega, by omega, by omega, hO2, by omega, ?_⟩ (by repeat (first | exact trivial | refine ⟨rfl, ?_⟩))
                  rw [← hRd]; conv => rhs; unfold shiftUp
                  rw [if_pos (show j < b by omega), if_neg (by rw [show (!ltInt d0[j]! d0[j - 1]!) = false from hl]; decide)]; rfl
              · skip
                refine ws_exit ?_
                refine nx_then_exit ?_
                refine nx_then_exit ?_
                refine nx_block_exit ?_
                refine nx_block ?_
                refine nx_then ?_
                refine ws_region ?_
                refine wl_x (ox_move rfl rfl) rfl rfl rfl ?_
                refine wl_x (ox_add rfl rfl rfl (by omega)) rfl rfl rfl ?_
                refine wl_x (ox_assign rfl rfl) rfl rfl rfl ?_
                refine wl_nil ?_
                refine nx_round sn _ (by omega) ⟨i2, z, x + 1, d0, m0, rfl, rfl, rfl, by omega, by omega, by omega, by omega, by omega, hO0, hds, by rw [← hR]; conv => rhs; unfold shiftUp; rw [if_neg (show ¬ j < b by omega)]⟩ (by repeat (first | exact trivial | refine ⟨rfl, ?_⟩))
            · skip
              refine ws_skip ?_
              refine nx_block ?_
              refine nx_then ?_
              refine ws_region ?_
              refine wl_x (ox_move rfl rfl) rfl rfl rfl ?_
              refine wl_x (ox_add rfl rfl rfl (by omega)) rfl rfl rfl ?_
              refine wl_x (ox_assign rfl rfl) rfl rfl rfl ?_
              refine wl_nil ?_
              rw [if_neg (by omega)] at hR
              refine nx_round sn _ (by omega) ⟨i2, z, x + 1, d2, m2, rfl, rfl, rfl, by omega, by omega, by omega, by omega, by omega, hO0', hds2, hR⟩ (by repeat (first | exact trivial | refine ⟨rfl, ?_⟩))
  · skip
    refine ws_exit ?_
    refine nx_then_exit ?_
    refine nx_then_exit ?_
    refine nx_block_exit ?_
    refine nx_then ?_
    refine ws_seq ?_
    refine ws_region ?_
    refine wl_x (ox_assign rfl rfl) rfl rfl rfl ?_
    refine wl_nil ?_
    refine nx_then ?_
    refine ws_ret ?_
    have hn0 : n = 0 := by omega
    subst hn0
    have hE : (d0, false) = partialInsertionSort ltInt d a b := hR
    rw [← hE]
    exact nx_ret1 rfl rfl (⟨rfl, rfl, m0, rfl, hO0⟩)
end Go.Proofs.Ythdkhnjnhhofgaa

/- Walks: the library's sort at integers, whole. -/
set_option linter.unusedSimpArgs false
set_option linter.unusedVariables false
set_option maxRecDepth 100000
namespace Go.Proofs.Ythdkhnjnhhofgaa
open Go.Eng Go.RowKit Go.Sort

/-- Sorted from a to b. -/
def Srt (h : Hp) (v : Value) (d : Array Int) (a b : Nat) : Value → Hp → List Hp → Prop := fun _ h' ms' => h = h' ∧ ∃ d' m, ms' = [m] ∧ OI m v d' ∧ PermIn a b d d' ∧ SortedIn ltInt a b d'


theorem pdq_ok (n : Nat) : ∀ (d : Array Int) (v : Value) (m : Hp), OI m v d → ∀ (a b : Nat) (limit : Int), b - a ≤ n → a ≤ b → b ≤ d.size → d.size ≤ 2305843009213693951 → Sort.Below ltInt a b d → 0 ≤ limit → limit ≤ 100 → ∀ (h : Hp) {a' b' : Int}, a' = a → b' = b →
    FnT Try.prog 46 #[v, .int .i64 a', .int .i64 b', .int .i64 limit] h [m] (Srt h v d a b) := by
  induction n using Nat.strongRecOn with
  | _ n ih =>
  intro d v m hO a b limit hn hab hb hsz hB hl0 hl1 h a' b' ea eb
  subst ea eb
  refine fn_enter Try.func46 Try.ntmps46 rfl rfl (fun w0 hw0 => ?_)
  simp only [argS]
  refine ws_seq ?_
  refine ws_region ?_
  refine wl_x (ox_assign rfl rfl) rfl rfl rfl ?_
  refine wl_nil ?_
  refine nx_then ?_
  refine ws_seq ?_
  refine ws_region ?_
  refine wl_x (ox_assign rfl rfl) rfl rfl rfl ?_
  refine wl_nil ?_
  refine nx_then ?_
  refine ws_block ?_
  refine ws_loop (fun k s h' ms' => ∃ (a1 b1 : Nat) (x y lim : Int) (wb wp : Bool) (d' : Array Int) (m : Hp), k = b1 - a1 ∧ s = [(0, v), (1, .int .i64 x), (2, .int .i64 y), (3, .int .i64 lim), (8, .bool wb), (9, .bool wp)] ∧ h = h' ∧ ms' = [m] ∧ x = a1 ∧ y = b1 ∧ 0 ≤ lim ∧ lim ≤ 100 ∧ a1 ≤ b1 ∧ b1 - a1 ≤ b - a ∧ OI m v d' ∧ d'.size = d.size ∧ b1 ≤ d.size ∧ Sort.Below ltInt a1 b1 d' ∧ ∀ R, PermIn a1 b1 d' R → SortedIn ltInt a1 b1 R → PermIn a b d R ∧ SortedIn ltInt a b R)
    _ _ ⟨a, b, a, b, limit, true, true, d, m, rfl, rfl, rfl, rfl, rfl, rfl, hl0, hl1, hab, Nat.le_refl _, hO, rfl, hb, hB, fun R h1 h2 => ⟨h1, h2⟩⟩ (by repeat (first | exact trivial | refine ⟨rfl, ?_⟩)) ?_
  rintro k s h' ms' ⟨a1, b1, x, y, lim, wb, wp, d0, m0, rfl, rfl, rfl, rfl, hx, hy, hm0, hm1, hab1, hle, hO0, hds, hb1, hB0, hfin⟩
  refine ws_block ?_
  refine ws_seq ?_
  refine ws_region ?_
  refine wl_x (ox_move rfl rfl) rfl rfl rfl ?_
  refine wl_x (ox_move rfl rfl) rfl rfl rfl ?_
  refine wl_x (ox_sub rfl rfl rfl (by omega)) rfl rfl rfl ?_
  refine wl_x (ox_assign rfl rfl) rfl rfl rfl ?_
  refine wl_nil ?_
  refine nx_then ?_
  refine ws_seq ?_
  refine ws_seq ?_
  refine ws_region ?_
  refine wl_x (ox_move rfl rfl) rfl rfl rfl ?_
  refine wl_x (ox_leq rfl rfl rfl) rfl rfl rfl ?_
  refine wl_nil ?_
  refine nx_then ?_
  refine ws_if rfl (fun h12 => ?_) (fun h12 => ?_)
  · skip
    refine ws_seq ?_
    refine ws_region ?_
    refine wl_x (ox_move rfl rfl) rfl rfl rfl ?_
    refine wl_x (ox_move rfl rfl) rfl rfl rfl ?_
    refine wl_x (ox_move rfl rfl) rfl rfl rfl ?_
    refine wl_call_ (pre := [m0]) rfl Try.call53 rfl (insertionSort_ok d0 v m0 hO0 a1 b1 hab1 (by omega) (by omega) _ (by omega) (by omega)) rfl rfl rfl rfl (fun _ _ _ _ hL => ?_)
    obtain ⟨rfl, m1, rfl, hO1⟩ := hL
    obtain ⟨p1, p2⟩ := insertionSort_holds swo_ltInt d0 a1 b1 hab1 (by omega)
    obtain ⟨q1, q2⟩ := hfin _ p1 p2
    refine wl_nil ?_
    refine nx_then ?_
    refine ws_ret ?_
    refine nx_then_ret ?_
    refine nx_block_ret ?_
    refine nx_then_ret ?_
    refine nx_block_ret ?_
    exact nx_ret0 rfl (⟨rfl, _, m1, rfl, hO1, q1, q2⟩)
  · skip
    refine ws_skip ?_
    refine nx_then ?_
    refine ws_seq ?_
    refine ws_seq ?_
    refine ws_region ?_
    refine wl_x (ox_move rfl rfl) rfl rfl rfl ?_
    refine wl_x (ox_eqi rfl rfl rfl) rfl rfl rfl ?_
    refine wl_nil ?_
    refine nx_then ?_
    refine ws_if rfl (fun hlz => ?_) (fun hlz => ?_)
    · skip
      refine ws_seq ?_
      refine ws_region ?_
      refine wl_x (ox_move rfl rfl) rfl rfl rfl ?_
      refine wl_x (ox_move rfl rfl) rfl rfl rfl ?_
      refine wl_x (ox_move rfl rfl) rfl rfl rfl ?_
      refine wl_call_ (pre := [m0]) rfl Try.call54 rfl (heapSort_ok d0 v m0 hO0 a1 b1 (by omega) (by omega) (by omega) _ (by omega) (by omega)) rfl rfl rfl rfl (fun _ _ _ _ hL => ?_)
      obtain ⟨rfl, m1, rfl, hO1⟩ := hL
      obtain ⟨p1, p2⟩ := heapSort_holds swo_ltInt d0 a1 b1 hab1 (by omega)
      obtain ⟨q1, q2⟩ := hfin _ p1 p2
      refine wl_nil ?_
      refine nx_then ?_
      refine ws_ret ?_
      refine nx_then_ret ?_
      refine nx_block_ret ?_
      refine nx_then_ret ?_
      refine nx_block_ret ?_
      exact nx_ret0 rfl (⟨rfl, _, m1, rfl, hO1, q1, q2⟩)
    · skip
      refine ws_skip ?_
      refine nx_then ?_
      refine ws_cut (fun s h' ms' => ∃ (lim1 : Int) (d' : Array Int) (m : Hp), s = [(0, v), (1, .int .i64 x), (2, .int .i64 y), (3, .int .i64 lim1), (8, .bool wb), (9, .bool wp), (10, .int .i64 (y - x))] ∧ h = h' ∧ ms' = [m] ∧ 0 ≤ lim1 ∧ lim1 ≤ 100 ∧ OI m v d' ∧ PermIn a1 b1 d0 d') ?_ (fun s h ms hI => ?_)
      · skip
        refine ws_seq ?_
        refine ws_region ?_
        refine wl_x (ox_move rfl rfl) rfl rfl rfl ?_
        refine wl_x (ox_not rfl rfl) rfl rfl rfl ?_
        refine wl_nil ?_
        refine nx_then ?_
        refine ws_cond rfl (fun hnb => ?_) (fun hnb => ?_)
        · skip
          refine ws_seq ?_
          refine ws_region ?_
          refine wl_x (ox_move rfl rfl) rfl rfl rfl ?_
          refine wl_x (ox_move rfl rfl) rfl rfl rfl ?_
          refine wl_x (ox_move rfl rfl) rfl rfl rfl ?_
          refine wl_call_ (pre := [m0]) rfl Try.call55 rfl (breakPatterns_ok d0 v m0 hO0 a1 b1 (by omega) (by omega) (by omega) _ (by omega) (by omega)) rfl rfl rfl rfl (fun _ _ _ _ hL => ?_)
          obtain ⟨rfl, m1, rfl, hO1⟩ := hL
          refine wl_nil ?_
          refine nx_then ?_
          refine ws_region ?_
          refine wl_x (ox_move rfl rfl) rfl rfl rfl ?_
          refine wl_x (ox_sub rfl rfl rfl (by omega)) rfl rfl rfl ?_
          refine wl_x (ox_assign rfl rfl) rfl rfl rfl ?_
          refine wl_nil ?_
          refine nx_meet _ ⟨lim - 1, _, m1, rfl, rfl, rfl, by omega, by omega, hO1, breakPatterns_holds d0 a1 b1 hab1 (by omega)⟩ (by repeat (first | exact trivial | refine ⟨rfl, ?_⟩))
        · skip
          refine ws_skip ?_
          refine nx_meet _ ⟨lim, d0, m0, rfl, rfl, rfl, hm0, hm1, hO0, permIn_refl d0 a1 b1⟩ (by repeat (first | exact trivial | refine ⟨rfl, ?_⟩))
      · skip
        obtain ⟨lim1, d2, m2, rfl, rfl, rfl, hl2, hl3, hO2, hP2⟩ := hI
        have hs2 := hP2.1
        have hcp := choosePivot_holds ltInt d2 a1 b1 (by omega)
        refine ws_seq ?_
        refine ws_region ?_
        refine wl_x (ox_move rfl rfl) rfl rfl rfl ?_
        refine wl_x (ox_move rfl rfl) rfl rfl rfl ?_
        refine wl_x (ox_move rfl rfl) rfl rfl rfl ?_
        refine wl_call_ (pre := [m2]) rfl Try.call56 rfl (choosePivot_ok d2 v m2 hO2 a1 b1 (by omega) (by omega) (by omega) _ (by omega) (by omega)) rfl rfl rfl rfl (fun _ _ _ _ hL => ?_)
        obtain ⟨rfl, rfl, rfl⟩ := hL
        generalize hc : choosePivot ltInt d2 a1 b1 = c at hcp ⊢
        obtain ⟨pv, hint⟩ := c
        refine wl_x (ox_move rfl rfl) rfl rfl rfl ?_
        refine wl_x (ox_extract rfl rfl rfl) rfl rfl rfl ?_
        refine wl_x (ox_extract rfl rfl rfl) rfl rfl rfl ?_
        refine wl_x (ox_assign rfl rfl) rfl rfl rfl ?_
        refine wl_x (ox_assign rfl rfl) rfl rfl rfl ?_
        refine wl_nil ?_
        refine nx_then ?_
        refine ws_cut (fun s h' ms' => ∃ (p : Nat) (z hv : Int) (d' : Array Int) (m : Hp), s = [(0, v), (1, .int .i64 x), (2, .int .i64 y), (3, .int .i64 lim1), (8, .bool wb), (9, .bool wp), (10, .int .i64 (y - x)), (11, .int .i64 z), (12, .int .i64 hv)] ∧ h = h' ∧ ms' = [m] ∧ z = p ∧ a1 ≤ p ∧ p < b1 ∧ OI m v d' ∧ PermIn a1 b1 d0 d') ?_ (fun s h ms hI => ?_)
        · skip
          refine ws_seq ?_
          refine ws_region ?_
          refine wl_x (ox_move rfl rfl) rfl rfl rfl ?_
          refine wl_x (ox_eqi rfl rfl rfl) rfl rfl rfl ?_
          refine wl_nil ?_
          refine nx_then ?_
          refine ws_if rfl (fun hdec => ?_) (fun hdec => ?_)
          · skip
            refine ws_seq ?_
            refine ws_region ?_
            refine wl_x (ox_move rfl rfl) rfl rfl rfl ?_
            refine wl_x (ox_move rfl rfl) rfl rfl rfl ?_
            refine wl_x (ox_move rfl rfl) rfl rfl rfl ?_
            refine wl_call_ (pre := [m2]) rfl Try.call57 rfl (reverseRange_ok d2 v m2 hO2 a1 b1 (by omega) (by omega) (by omega) _ (by omega) (by omega)) rfl rfl rfl rfl (fun _ _ _ _ hL => ?_)
            obtain ⟨rfl, m3, rfl, hO3⟩ := hL
            refine wl_nil ?_
            refine nx_then ?_
            refine ws_seq ?_
            refine ws_region ?_
            refine wl_x (ox_move rfl rfl) rfl rfl rfl ?_
            refine wl_x (ox_sub rfl rfl rfl (by omega)) rfl rfl rfl ?_
            refine wl_x (ox_move rfl rfl) rfl rfl rfl ?_
            refine wl_x (ox_move rfl rfl) rfl rfl rfl ?_
            refine wl_x (ox_sub rfl rfl rfl (by omega)) rfl rfl rfl ?_
            refine wl_x (ox_sub rfl rfl rfl (by omega)) rfl rfl rfl ?_
            refine wl_x (ox_assign rfl rfl) rfl rfl rfl ?_
            refine wl_nil ?_
            refine nx_then ?_
            refine ws_region ?_
            refine wl_x (ox_assign rfl rfl) rfl rfl rfl ?_
            refine wl_nil ?_
            refine nx_meet _ ⟨(b1 - 1) - (pv - a1), y - 1 - (pv - x), 1, _, m3, rfl, rfl, rfl, by omega, by omega, by omega, hO3, permIn_trans _ _ _ _ _ hP2 (reverseRange_holds d2 a1 b1 hab1 (by omega))⟩ (by repeat (first | exact trivial | refine ⟨rfl, ?_⟩))
          · skip
            refine ws_skip ?_
            refine nx_meet _ ⟨pv, pv, hintV hint, d2, m2, rfl, rfl, rfl, rfl, hcp.1, hcp.2, hO2, hP2⟩ (by repeat (first | exact trivial | refine ⟨rfl, ?_⟩))
        · skip
          obtain ⟨p, z, hv, d3, m3, rfl, rfl, rfl, hz, hpa, hpb, hO3, hP3⟩ := hI
          have hs3 := hP3.1
          have hB3 := Sort.Below.perm hB0 (by omega) hP3
          clear hO2 hP2 hs2 hcp hc hO0
          refine ws_cut (fun s h' ms' => ∃ (d' : Array Int) (m : Hp), s = [(0, v), (1, .int .i64 x), (2, .int .i64 y), (3, .int .i64 lim1), (8, .bool wb), (9, .bool wp), (10, .int .i64 (y - x)), (11, .int .i64 z)] ∧ h = h' ∧ ms' = [m] ∧ OI m v d' ∧ PermIn a1 b1 d0 d') ?_ (fun s h ms hI => ?_)
          · skip
            refine ws_seq ?_
            refine ws_region ?_
            refine wl_x (ox_move rfl rfl) rfl rfl rfl ?_
            refine wl_x (ox_move rfl rfl) rfl rfl rfl ?_
            refine wl_splitb (t := 62) rfl (fun h1 => ?_) (fun h1 => ?_)
            · skip
              refine wl_gx (ox_move rfl rfl) rfl rfl rfl rfl rfl rfl ?_
              refine wl_x (ox_pick_t rfl rfl rfl) rfl rfl rfl ?_
              refine wl_x (ox_move rfl rfl) rfl rfl rfl ?_
              refine wl_splitb (t := 65) rfl (fun h2 => ?_) (fun h2 => ?_)
              · skip
                refine wl_gx (ox_move rfl rfl) rfl rfl rfl rfl rfl rfl ?_
                refine wl_gx (ox_eqi rfl rfl rfl) rfl rfl rfl rfl rfl rfl ?_
                refine wl_x (ox_pick_t rfl rfl rfl) rfl rfl rfl ?_
                refine wl_nil ?_
                refine nx_then ?_
                refine ws_if rfl (fun hh => ?_) (fun hh => ?_)
                · skip
                  refine ws_seq ?_
                  refine ws_region ?_
                  refine wl_x (ox_move rfl rfl) rfl rfl rfl ?_
                  refine wl_x (ox_move rfl rfl) rfl rfl rfl ?_
                  refine wl_x (ox_move rfl rfl) rfl rfl rfl ?_
                  refine wl_call_ (pre := [m3]) rfl Try.call58 rfl (partialIns_ok d3 v m3 hO3 a1 b1 (by omega) (by omega) (by omega) _ (by omega) (by omega)) rfl rfl rfl rfl (fun _ _ _ _ hL => ?_)
                  obtain ⟨rfl, rfl, m4, rfl, hO4⟩ := hL
                  obtain ⟨p1, p2⟩ := partialInsertionSort_holds swo_ltInt d3 a1 b1 (by omega) (by omega) hB3
                  refine wl_nil ?_
                  refine nx_then ?_
                  refine ws_cond rfl (fun hr => ?_) (fun hr => ?_)
                  · skip
                    obtain ⟨q1, q2⟩ := hfin _ (permIn_trans _ _ _ _ _ hP3 p1) (p2 hr)
                    refine ws_ret ?_
                    refine nx_then_ret ?_
                    refine nx_block_ret ?_
                    refine nx_then_ret ?_
                    refine nx_block_ret ?_
                    exact nx_ret0 rfl (⟨rfl, _, m4, rfl, hO4, q1, q2⟩)
                  · skip
                    refine ws_skip ?_
                    refine nx_meet _ ⟨_, m4, rfl, rfl, rfl, hO4, permIn_trans _ _ _ _ _ hP3 p1⟩ (by repeat (first | exact trivial | refine ⟨rfl, ?_⟩))
                · skip
                  refine ws_skip ?_
                  refine nx_meet _ ⟨d3, m3, rfl, rfl, rfl, hO3, hP3⟩ (by repeat (first | exact trivial | refine ⟨rfl, ?_⟩))
              · skip
                refine wl_skip rfl rfl rfl rfl rfl rfl rfl ?_
                refine wl_skip rfl rfl rfl rfl rfl rfl rfl ?_
                refine wl_x (ox_pick_f rfl rfl rfl) rfl rfl rfl ?_
                refine wl_nil ?_
                refine nx_then ?_
                refine ws_cond_f rfl ?_
                refine ws_skip ?_
                refine nx_meet _ ⟨d3, m3, rfl, rfl, rfl, hO3, hP3⟩ (by repeat (first | exact trivial | refine ⟨rfl, ?_⟩))
            · skip
              refine wl_skip rfl rfl rfl rfl rfl rfl rfl ?_
              refine wl_x (ox_pick_f rfl rfl rfl) rfl rfl rfl ?_
              refine wl_x (ox_move rfl rfl) rfl rfl rfl ?_
              refine wl_skip rfl rfl rfl rfl rfl rfl rfl ?_
              refine wl_skip rfl rfl rfl rfl rfl rfl rfl ?_
              refine wl_x (ox_pick_f rfl rfl rfl) rfl rfl rfl ?_
              refine wl_nil ?_
              refine nx_then ?_
              refine ws_cond_f rfl ?_
              refine ws_skip ?_
              refine nx_meet _ ⟨d3, m3, rfl, rfl, rfl, hO3, hP3⟩ (by repeat (first | exact trivial | refine ⟨rfl, ?_⟩))
          · skip
            obtain ⟨d4, m4, rfl, rfl, rfl, hO4, hP4⟩ := hI
            have hs4 := hP4.1
            have hB4 := Sort.Below.perm hB0 (by omega) hP4
            have hcomp : ∀ R, PermIn a1 b1 d4 R → SortedIn ltInt a1 b1 R → PermIn a b d R ∧ SortedIn ltInt a b R := fun R r1 r2 => hfin R (permIn_trans _ _ _ _ _ hP4 r1) r2
            clear hO3 hP3 hs3 hB3 hfin hP4
            refine ws_seq ?_
            refine ws_seq ?_
            refine ws_draw 12 fol (by kernel_rfl) rfl ?_
            simp only [List.take_succ_cons, List.take_zero, List.drop_succ_cons, List.drop_zero, List.take_nil, List.drop_nil]
            refine wr_x (ox_move rfl rfl) rfl rfl ?_
            refine wr_x (ox_gtr rfl rfl rfl) rfl rfl ?_
            refine wr_x (ox_move rfl rfl) rfl rfl ?_
            refine wr_split (t := 75) rfl (fun h0 => ?_) (fun h0 => ?_)
            · skip
              refine wr_gx (ox_move rfl rfl) rfl rfl rfl rfl ?_
              refine wr_gx (ox_move rfl rfl) rfl rfl rfl rfl ?_
              refine wr_gx (ox_sub rfl rfl rfl (by omega)) rfl rfl rfl rfl ?_
              first | refine wr_gx (ox_index (a1 - 1) rfl Try.underlying23 el3 rfl rfl (by omega) (by omega)) rfl rfl rfl rfl ?_ | refine wr_gx (ox_indexR (a1 - 1) (hO4.rd (.head _)) rfl Try.underlying23 el3 rfl rfl (by omega) (by omega)) rfl rfl rfl rfl ?_
              refine wr_gx (ox_load rfl Try.underlying3 rfl rfl (by first | exact hO4.get (.head _) (by omega))) rfl rfl rfl rfl ?_
              refine wr_gx (ox_move rfl rfl) rfl rfl rfl rfl ?_
              refine wr_gx (ox_move rfl rfl) rfl rfl rfl rfl ?_
              first | refine wr_gx (ox_index p rfl Try.underlying23 el3 rfl rfl (by omega) (by omega)) rfl rfl rfl rfl ?_ | refine wr_gx (ox_indexR p (hO4.rd (.head _)) rfl Try.underlying23 el3 rfl rfl (by omega) (by omega)) rfl rfl rfl rfl ?_
              refine wr_gx (ox_load rfl Try.underlying3 rfl rfl (by first | exact hO4.get (.head _) (by omega))) rfl rfl rfl rfl ?_
              refine wr_nil ?_
              refine wl_gx (ox_call rfl Try.call59 rfl (less_ok _ _ _ _)) rfl rfl rfl rfl rfl rfl ?_
              refine wl_gx (ox_not rfl rfl) rfl rfl rfl rfl rfl rfl ?_
              refine wl_x (ox_pick_t rfl rfl rfl) rfl rfl rfl ?_
              refine wl_nil ?_
              refine nx_then ?_
              refine ws_cond rfl (fun hnl => ?_) (fun hnl => ?_)
              · skip
                refine ws_seq ?_
                refine ws_region ?_
                refine wl_x (ox_move rfl rfl) rfl rfl rfl ?_
                refine wl_x (ox_move rfl rfl) rfl rfl rfl ?_
                refine wl_x (ox_move rfl rfl) rfl rfl rfl ?_
                refine wl_x (ox_move rfl rfl) rfl rfl rfl ?_
                refine wl_call_ (pre := [m4]) rfl Try.call60 rfl (partitionEqual_ok d4 v m4 hO4 a1 b1 p (by omega) (by omega) (by omega) (by omega) _ (by omega) (by omega) (by omega)) rfl rfl rfl rfl (fun _ _ _ _ hL => ?_)
                obtain ⟨rfl, rfl, m5, rfl, hO5⟩ := hL
                obtain ⟨q1, q2, q3, q4, q5⟩ := round_eq swo_ltInt (partitionEqual_holds _) (d3 := d4) (d4 := (partitionEqual ltInt d4 a1 b1 p).2) (mid := (partitionEqual ltInt d4 a1 b1 p).1) (by omega) hpa hpb (by omega) hB4 (by simpa using hnl) rfl
                refine wl_x (ox_assign rfl rfl) rfl rfl rfl ?_
                refine wl_nil ?_
                refine nx_then ?_
                refine ws_seq ?_
                refine ws_region ?_
                refine wl_x (ox_move rfl rfl) rfl rfl rfl ?_
                refine wl_x (ox_assign rfl rfl) rfl rfl rfl ?_
                refine wl_nil ?_
                refine nx_then ?_
                refine ws_exit ?_
                refine nx_then_exit ?_
                refine nx_block_exit ?_
                refine nx_round (b1 - (partitionEqual ltInt d4 a1 b1 p).1) _ (by omega) ⟨_, b1, _, y, lim1, wb, wp, _, m5, rfl, rfl, rfl, rfl, rfl, by omega, hl2, hl3, q2, by omega, hO5, by omega, by omega, q4, fun R r1 r2 => hcomp R (q5 R r1 r2).1 (q5 R r1 r2).2⟩ (by repeat (first | exact trivial | refine ⟨rfl, ?_⟩))
              · skip
                refine ws_skip ?_
                refine nx_then ?_
                refine ws_seq ?_
                refine ws_region ?_
                refine wl_x (ox_move rfl rfl) rfl rfl rfl ?_
                refine wl_x (ox_move rfl rfl) rfl rfl rfl ?_
                refine wl_x (ox_move rfl rfl) rfl rfl rfl ?_
                refine wl_x (ox_move rfl rfl) rfl rfl rfl ?_
                refine wl_call_ (pre := [m4]) rfl Try.call61 rfl (partition_ok d4 v m4 hO4 a1 b1 p (by omega) (by omega) (by omega) (by omega) _ (by omega) (by omega) (by omega)) rfl rfl rfl rfl (fun _ _ _ _ hL => ?_)
                obtain ⟨rfl, rfl, m5, rfl, hO5⟩ := hL
                obtain ⟨q1, q2, q3, q4, q5, q6, q7⟩ := round_part swo_ltInt (partition_holds _) (d3 := d4) (d4 := (Sort.partition ltInt d4 a1 b1 p).2.2) (mid := (Sort.partition ltInt d4 a1 b1 p).1) (ap := (Sort.partition ltInt d4 a1 b1 p).2.1) hpa hpb (by omega) hB4 rfl
                generalize hF : Sort.partition ltInt d4 a1 b1 p = F at q1 q2 q3 q4 q5 q6 q7 hO5 ⊢
                obtain ⟨mid, ap, d5⟩ := F
                clear hF
                have q1 : a1 ≤ mid := q1
                have q2 : mid < b1 := q2
                have q3 : d5.size = d4.size := q3
                refine wl_x (ox_move rfl rfl) rfl rfl rfl ?_
                refine wl_x (ox_extract rfl rfl rfl) rfl rfl rfl ?_
                refine wl_x (ox_extract rfl rfl rfl) rfl rfl rfl ?_
                refine wl_x (ox_assign rfl rfl) rfl rfl rfl ?_
                refine wl_x (ox_assign rfl rfl) rfl rfl rfl ?_
                refine wl_nil ?_
                refine nx_then ?_
                refine ws_seq ?_
                refine ws_region ?_
                refine wl_x (ox_move rfl rfl) rfl rfl rfl ?_
                refine wl_x (ox_assign rfl rfl) rfl rfl rfl ?_
                refine wl_nil ?_
                refine nx_then ?_
                refine ws_seq ?_
                refine ws_region ?_
                refine wl_x (ox_move rfl rfl) rfl rfl rfl ?_
                refine wl_x (ox_move rfl rfl) rfl rfl rfl ?_
                refine wl_x (ox_sub rfl rfl rfl (by omega)) rfl rfl rfl ?_
                refine wl_x (ox_move rfl rfl) rfl rfl rfl ?_
                refine wl_x (ox_move rfl rfl) rfl rfl rfl ?_
                refine wl_x (ox_sub rfl rfl rfl (by omega)) rfl rfl rfl ?_
                refine wl_x (ox_assign rfl rfl) rfl rfl rfl ?_
                refine wl_x (ox_assign rfl rfl) rfl rfl rfl ?_
                refine wl_nil ?_
                refine nx_then ?_
                refine ws_seq ?_
                refine ws_region ?_
                refine wl_x (ox_move rfl rfl) rfl rfl rfl ?_
                first | refine wl_x (ox_quoP rfl rfl rfl (by omega) (by omega)) rfl rfl rfl ?_ | refine wl_x (ox_quo rfl rfl rfl (by omega) (by omega)) rfl rfl rfl ?_
                refine wl_x (ox_assign rfl rfl) rfl rfl rfl ?_
                refine wl_nil ?_
                refine nx_then ?_
                refine ws_seq ?_
                refine ws_region ?_
                refine wl_x (ox_move rfl rfl) rfl rfl rfl ?_
                refine wl_x (ox_move rfl rfl) rfl rfl rfl ?_
                refine wl_x (ox_lss rfl rfl rfl) rfl rfl rfl ?_
                refine wl_nil ?_
                refine nx_then ?_
                refine ws_if rfl (fun hlr => ?_) (fun hlr => ?_)
                · skip
                  refine ws_seq ?_
                  refine ws_region ?_
                  refine wl_x (ox_move rfl rfl) rfl rfl rfl ?_
                  refine wl_x (ox_move rfl rfl) rfl rfl rfl ?_
                  refine wl_x (ox_geq rfl rfl rfl) rfl rfl rfl ?_
                  refine wl_x (ox_assign rfl rfl) rfl rfl rfl ?_
                  refine wl_nil ?_
                  refine nx_then ?_
                  refine ws_seq ?_
                  refine ws_region ?_
                  refine wl_x (ox_move rfl rfl) rfl rfl rfl ?_
                  refine wl_x (ox_move rfl rfl) rfl rfl rfl ?_
                  refine wl_x (ox_move rfl rfl) rfl rfl rfl ?_
                  refine wl_x (ox_move rfl rfl) rfl rfl rfl ?_
                  refine wl_call_ (pre := [m5]) rfl Try.call46 rfl (ih (mid - a1) (by omega) d5 v m5 hO5 a1 mid lim1 (Nat.le_refl _) (by omega) (by omega) (by omega) q4 hl2 hl3 _ (by omega) (by omega)) rfl rfl rfl rfl (fun _ _ _ _ hL => ?_)
                  obtain ⟨rfl, d6, m6, rfl, hO6, r1, r2⟩ := hL
                  have hs6 := r1.1
                  obtain ⟨s1, s2⟩ := q6 d6 r1 r2
                  refine wl_nil ?_
                  refine nx_then ?_
                  refine ws_region ?_
                  refine wl_x (ox_move rfl rfl) rfl rfl rfl ?_
                  refine wl_x (ox_add rfl rfl rfl (by omega)) rfl rfl rfl ?_
                  refine wl_x (ox_assign rfl rfl) rfl rfl rfl ?_
                  refine wl_nil ?_
                  refine nx_block ?_
                  refine nx_round (b1 - (mid + 1)) _ (by omega) ⟨mid + 1, b1, _, y, lim1, _, ap, d6, m6, rfl, rfl, rfl, rfl, rfl, by omega, hl2, hl3, by omega, by omega, hO6, by omega, by omega, s1, fun R r1 r2 => hcomp R (s2 R r1 r2).1 (s2 R r1 r2).2⟩ (by repeat (first | exact trivial | refine ⟨rfl, ?_⟩))
                · skip
                  refine ws_seq ?_
                  refine ws_region ?_
                  refine wl_x (ox_move rfl rfl) rfl rfl rfl ?_
                  refine wl_x (ox_move rfl rfl) rfl rfl rfl ?_
                  refine wl_x (ox_geq rfl rfl rfl) rfl rfl rfl ?_
                  refine wl_x (ox_assign rfl rfl) rfl rfl rfl ?_
                  refine wl_nil ?_
                  refine nx_then ?_
                  refine ws_seq ?_
                  refine ws_region ?_
                  refine wl_x (ox_move rfl rfl) rfl rfl rfl ?_
                  refine wl_x (ox_move rfl rfl) rfl rfl rfl ?_
                  refine wl_x (ox_add rfl rfl rfl (by omega)) rfl rfl rfl ?_
                  refine wl_x (ox_move rfl rfl) rfl rfl rfl ?_
                  refine wl_x (ox_move rfl rfl) rfl rfl rfl ?_
                  refine wl_call_ (pre := [m5]) rfl Try.call46 rfl (ih (b1 - (mid + 1)) (by omega) d5 v m5 hO5 (mid + 1) b1 lim1 (Nat.le_refl _) (by omega) (by omega) (by omega) q5 hl2 hl3 _ (by omega) (by omega)) rfl rfl rfl rfl (fun _ _ _ _ hL => ?_)
                  obtain ⟨rfl, d6, m6, rfl, hO6, r1, r2⟩ := hL
                  have hs6 := r1.1
                  obtain ⟨s1, s2⟩ := q7 d6 r1 r2
                  refine wl_nil ?_
                  refine nx_then ?_
                  refine ws_region ?_
                  refine wl_x (ox_move rfl rfl) rfl rfl rfl ?_
                  refine wl_x (ox_assign rfl rfl) rfl rfl rfl ?_
                  refine wl_nil ?_
                  refine nx_block ?_
                  refine nx_round (mid - a1) _ (by omega) ⟨a1, mid, x, _, lim1, _, ap, d6, m6, rfl, rfl, rfl, rfl, hx, rfl, hl2, hl3, by omega, by omega, hO6, by omega, by omega, s1, fun R r1 r2 => hcomp R (s2 R r1 r2).1 (s2 R r1 r2).2⟩ (by repeat (first | exact trivial | refine ⟨rfl, ?_⟩))
            · skip
              refine wr_skip rfl rfl rfl rfl rfl ?_
              refine wr_skip rfl rfl rfl rfl rfl ?_
              refine wr_skip rfl rfl rfl rfl rfl ?_
              refine wr_skip rfl rfl rfl rfl rfl ?_
              refine wr_skip rfl rfl rfl rfl rfl ?_
              refine wr_skip rfl rfl rfl rfl rfl ?_
              refine wr_skip rfl rfl rfl rfl rfl ?_
              refine wr_skip rfl rfl rfl rfl rfl ?_
              refine wr_skip rfl rfl rfl rfl rfl ?_
              refine wr_nil ?_
              refine wl_skip rfl rfl rfl rfl rfl rfl rfl ?_
              refine wl_skip rfl rfl rfl rfl rfl rfl rfl ?_
              refine wl_x (ox_pick_f rfl rfl rfl) rfl rfl rfl ?_
              refine wl_nil ?_
              refine nx_then ?_
              refine ws_cond_f rfl ?_
              refine ws_skip ?_
              refine nx_then ?_
              refine ws_seq ?_
              refine ws_region ?_
              refine wl_x (ox_move rfl rfl) rfl rfl rfl ?_
              refine wl_x (ox_move rfl rfl) rfl rfl rfl ?_
              refine wl_x (ox_move rfl rfl) rfl rfl rfl ?_
              refine wl_x (ox_move rfl rfl) rfl rfl rfl ?_
              refine wl_call_ (pre := [m4]) rfl Try.call61 rfl (partition_ok d4 v m4 hO4 a1 b1 p (by omega) (by omega) (by omega) (by omega) _ (by omega) (by omega) (by omega)) rfl rfl rfl rfl (fun _ _ _ _ hL => ?_)
              obtain ⟨rfl, rfl, m5, rfl, hO5⟩ := hL
              obtain ⟨q1, q2, q3, q4, q5, q6, q7⟩ := round_part swo_ltInt (partition_holds _) (d3 := d4) (d4 := (Sort.partition ltInt d4 a1 b1 p).2.2) (mid := (Sort.partition ltInt d4 a1 b1 p).1) (ap := (Sort.partition ltInt d4 a1 b1 p).2.1) hpa hpb (by omega) hB4 rfl
              generalize hF : Sort.partition ltInt d4 a1 b1 p = F at q1 q2 q3 q4 q5 q6 q7 hO5 ⊢
              obtain ⟨mid, ap, d5⟩ := F
              clear hF
              have q1 : a1 ≤ mid := q1
              have q2 : mid < b1 := q2
              have q3 : d5.size = d4.size := q3
              refine wl_x (ox_move rfl rfl) rfl rfl rfl ?_
              refine wl_x (ox_extract rfl rfl rfl) rfl rfl rfl ?_
              refine wl_x (ox_extract rfl rfl rfl) rfl rfl rfl ?_
              refine wl_x (ox_assign rfl rfl) rfl rfl rfl ?_
              refine wl_x (ox_assign rfl rfl) rfl rfl rfl ?_
              refine wl_nil ?_
              refine nx_then ?_
              refine ws_seq ?_
              refine ws_region ?_
              refine wl_x (ox_move rfl rfl) rfl rfl rfl ?_
              refine wl_x (ox_assign rfl rfl) rfl rfl rfl ?_
              refine wl_nil ?_
              refine nx_then ?_
              refine ws_seq ?_
              refine ws_region ?_
              refine wl_x (ox_move rfl rfl) rfl rfl rfl ?_
              refine wl_x (ox_move rfl rfl) rfl rfl rfl ?_
              refine wl_x (ox_sub rfl rfl rfl (by omega)) rfl rfl rfl ?_
              refine wl_x (ox_move rfl rfl) rfl rfl rfl ?_
              refine wl_x (ox_move rfl rfl) rfl rfl rfl ?_
              refine wl_x (ox_sub rfl rfl rfl (by omega)) rfl rfl rfl ?_
              refine wl_x (ox_assign rfl rfl) rfl rfl rfl ?_
              refine wl_x (ox_assign rfl rfl) rfl rfl rfl ?_
              refine wl_nil ?_
              refine nx_then ?_
              refine ws_seq ?_
              refine ws_region ?_
              refine wl_x (ox_move rfl rfl) rfl rfl rfl ?_
              first | refine wl_x (ox_quoP rfl rfl rfl (by omega) (by omega)) rfl rfl rfl ?_ | refine wl_x (ox_quo rfl rfl rfl (by omega) (by omega)) rfl rfl rfl ?_
              refine wl_x (ox_assign rfl rfl) rfl rfl rfl ?_
              refine wl_nil ?_
              refine nx_then ?_
              refine ws_seq ?_
              refine ws_region ?_
              refine wl_x (ox_move rfl rfl) rfl rfl rfl ?_
              refine wl_x (ox_move rfl rfl) rfl rfl rfl ?_
              refine wl_x (ox_lss rfl rfl rfl) rfl rfl rfl ?_
              refine wl_nil ?_
              refine nx_then ?_
              refine ws_if rfl (fun hlr => ?_) (fun hlr => ?_)
              · skip
                refine ws_seq ?_
                refine ws_region ?_
                refine wl_x (ox_move rfl rfl) rfl rfl rfl ?_
                refine wl_x (ox_move rfl rfl) rfl rfl rfl ?_
                refine wl_x (ox_geq rfl rfl rfl) rfl rfl rfl ?_
                refine wl_x (ox_assign rfl rfl) rfl rfl rfl ?_
                refine wl_nil ?_
                refine nx_then ?_
                refine ws_seq ?_
                refine ws_region ?_
                refine wl_x (ox_move rfl rfl) rfl rfl rfl ?_
                refine wl_x (ox_move rfl rfl) rfl rfl rfl ?_
                refine wl_x (ox_move rfl rfl) rfl rfl rfl ?_
                refine wl_x (ox_move rfl rfl) rfl rfl rfl ?_
                refine wl_call_ (pre := [m5]) rfl Try.call46 rfl (ih (mid - a1) (by omega) d5 v m5 hO5 a1 mid lim1 (Nat.le_refl _) (by omega) (by omega) (by omega) q4 hl2 hl3 _ (by omega) (by omega)) rfl rfl rfl rfl (fun _ _ _ _ hL => ?_)
                obtain ⟨rfl, d6, m6, rfl, hO6, r1, r2⟩ := hL
                have hs6 := r1.1
                obtain ⟨s1, s2⟩ := q6 d6 r1 r2
                refine wl_nil ?_
                refine nx_then ?_
                refine ws_region ?_
                refine wl_x (ox_move rfl rfl) rfl rfl rfl ?_
                refine wl_x (ox_add rfl rfl rfl (by omega)) rfl rfl rfl ?_
                refine wl_x (ox_assign rfl rfl) rfl rfl rfl ?_
                refine wl_nil ?_
                refine nx_block ?_
                refine nx_round (b1 - (mid + 1)) _ (by omega) ⟨mid + 1, b1, _, y, lim1, _, ap, d6, m6, rfl, rfl, rfl, rfl, rfl, by omega, hl2, hl3, by omega, by omega, hO6, by omega, by omega, s1, fun R r1 r2 => hcomp R (s2 R r1 r2).1 (s2 R r1 r2).2⟩ (by repeat (first | exact trivial | refine ⟨rfl, ?_⟩))
              · skip
                refine ws_seq ?_
                refine ws_region ?_
                refine wl_x (ox_move rfl rfl) rfl rfl rfl ?_
                refine wl_x (ox_move rfl rfl) rfl rfl rfl ?_
                refine wl_x (ox_geq rfl rfl rfl) rfl rfl rfl ?_
                refine wl_x (ox_assign rfl rfl) rfl rfl rfl ?_
                refine wl_nil ?_
                refine nx_then ?_
                refine ws_seq ?_
                refine ws_region ?_
                refine wl_x (ox_move rfl rfl) rfl rfl rfl ?_
                refine wl_x (ox_move rfl rfl) rfl rfl rfl ?_
                refine wl_x (ox_add rfl rfl rfl (by omega)) rfl rfl rfl ?_
                refine wl_x (ox_move rfl rfl) rfl rfl rfl ?_
                refine wl_x (ox_move rfl rfl) rfl rfl rfl ?_
                refine wl_call_ (pre := [m5]) rfl Try.call46 rfl (ih (b1 - (mid + 1)) (by omega) d5 v m5 hO5 (mid + 1) b1 lim1 (Nat.le_refl _) (by omega) (by omega) (by omega) q5 hl2 hl3 _ (by omega) (by omega)) rfl rfl rfl rfl (fun _ _ _ _ hL => ?_)
                obtain ⟨rfl, d6, m6, rfl, hO6, r1, r2⟩ := hL
                have hs6 := r1.1
                obtain ⟨s1, s2⟩ := q7 d6 r1 r2
                refine wl_nil ?_
                refine nx_then ?_
                refine ws_region ?_
                refine wl_x (ox_move rfl rfl) rfl rfl rfl ?_
                refine wl_x (ox_assign rfl rfl) rfl rfl rfl ?_
                refine wl_nil ?_
                refine nx_block ?_
                refine nx_round (mid - a1) _ (by omega) ⟨a1, mid, x, _, lim1, _, ap, d6, m6, rfl, rfl, rfl, rfl, hx, rfl, hl2, hl3, by omega, by omega, hO6, by omega, by omega, s1, fun R r1 r2 => hcomp R (s2 R r1 r2).1 (s2 R r1 r2).2⟩ (by repeat (first | exact trivial | refine ⟨rfl, ?_⟩))

/-- The integers in order. -/
def isort (l : List Int) : List Int := l.mergeSort fun x y => decide (x ≤ y)
theorem isort_perm (l : List Int) : (isort l).Perm l := List.mergeSort_perm l _
theorem isort_sorted (l : List Int) : (isort l).Pairwise (· ≤ ·) := by
  have := List.pairwise_mergeSort (le := fun x y : Int => decide (x ≤ y)) (fun a b c => by simp; omega) (fun a b => by simp; omega) l
  exact this.imp fun h => by simpa using h

theorem sort_ok (l : List Int) (v : Value) (m : Hp) (hO : OwnL cI 1 3 m v l) (hl : l.length ≤ 2305843009213693951) (h : Hp) :
    FnT Try.prog 28 #[v] h [m] (fun _ h' ms' => h = h' ∧ ∃ m', ms' = [m'] ∧ OwnL cI 1 3 m' v (isort l)) := by
  have hO0 : OI m v l.toArray := hO
  have hlen : l.toArray.size = l.length := rfl
  refine fn_enter Try.func28 Try.ntmps28 rfl rfl (fun w0 hw0 => ?_)
  simp only [argS]
  refine ws_seq ?_
  refine ws_region ?_
  refine wl_x (ox_move rfl rfl) rfl rfl rfl ?_
  first | refine wl_x (ox_len (ty := 23) rfl Try.underlying23 rfl) rfl rfl rfl ?_ | refine wl_x (ox_lenR (hO0.rd (.head _)) rfl Try.underlying23 rfl) rfl rfl rfl ?_
  refine wl_x (ox_assign rfl rfl) rfl rfl rfl ?_
  refine wl_nil ?_
  refine nx_then ?_
  refine ws_region ?_
  refine wl_x (ox_move rfl rfl) rfl rfl rfl ?_
  refine wl_x (ox_move rfl rfl) rfl rfl rfl ?_
  refine wl_x (ox_move rfl rfl) rfl rfl rfl ?_
  refine wl_x (ox_conv rfl Try.underlying3 Try.underlying69 rfl (wrap_u64 (by omega))) rfl rfl rfl ?_
  refine wl_x (ox_call rfl Try.call47 rfl (bitsLen_ok l.length (by omega) _ _ (by simp))) rfl rfl rfl ?_
  have hbl : bitsLen l.length ≤ 62 := (bitsLen_le_iff l.length 62).2 (by omega)
  refine wl_call_ (pre := [m]) rfl Try.call46 rfl (pdq_ok l.length l.toArray v m hO0 0 l.length (bitsLen l.length : Nat) (by omega) (by omega) (by omega) (by omega) (.inl rfl) (by omega) (by omega) _ rfl rfl) rfl rfl rfl rfl (fun _ _ _ _ hL => ?_)
  obtain ⟨rfl, d1, m1, rfl, hO1, r1, r2⟩ := hL
  have hE : d1.toList = isort l := by
    have := sorted_unique_holds swo_ltInt (fun x y h1 h2 => by simp [ltInt] at h1 h2; omega) l.toArray d1 r1 r2
    rw [this]
    unfold isort
    congr 1
    funext x y
    simp [ltInt]; rw [← decide_not]; congr 1; simp
  refine wl_nil ?_
  exact nx_end0 rfl (⟨rfl, m1, rfl, by rw [← hE]; exact hO1⟩)
end Go.Proofs.Ythdkhnjnhhofgaa

/- The library's Compact at integers, on a row that is owned. -/
set_option linter.unusedSimpArgs false
set_option linter.unusedVariables false
set_option maxRecDepth 100000
namespace Go.Proofs.Ythdkhnjnhhofgaa
open Go.Eng Go.RowKit Go.Sort

theorem flatMap_cI (l : List Int) : l.flatMap cI = l.map (Value.int .i64) := by
  induction l with
  | nil => rfl
  | cons a l ih => rw [List.flatMap_cons, List.map_cons, ih]; rfl

theorem compact_mem (l : List Int) (x : Int) : x ∈ Lib.compact l ↔ x ∈ l := by
  have key : ∀ m, m ≤ l.length → ∀ j, j < m → l.toArray[j]! ∈ Lib.compactUpTo l.toArray m := by
    intro m
    induction m with
    | zero => intro _ j hj; omega
    | succ m ih =>
      intro hm j hj
      rw [Lib.compactUpTo_succ, List.mem_append]
      by_cases hjm : j < m
      · exact .inl (ih (by omega) j hjm)
      · have : j = m := by omega
        subst this
        cases hk : Lib.keeps l.toArray j with
        | true => right; simp
        | false =>
          left
          unfold Lib.keeps at hk
          have h0 : 0 < j := by
            rcases Nat.eq_zero_or_pos j with h | h
            · subst h; simp at hk
            · exact h
          have : l.toArray[j]! = l.toArray[j - 1]! := by
            simp at hk
            simpa using hk.2
          rw [this]
          exact ih (by omega) (j - 1) (by omega)
  constructor
  · intro h
    unfold Lib.compact Lib.compactUpTo at h
    obtain ⟨j, hj, rfl⟩ := List.mem_map.1 h
    have hj' : j < l.length := by simpa using (List.mem_filter.1 hj).1
    simp [hj']
  · intro h
    obtain ⟨j, hj, rfl⟩ := List.getElem_of_mem h
    have := key l.length (Nat.le_refl _) j hj
    unfold Lib.compact
    simpa [hj] using this
theorem compact_sublist (l : List Int) : (Lib.compact l).Sublist l := by
  unfold Lib.compact Lib.compactUpTo
  have h1 : (List.range l.length).map (fun j => l.toArray[j]!) = l := by
    have := Lib.range_map_get l.toArray
    simpa using this
  have h2 := List.Sublist.map (fun j => l.toArray[j]!) (List.filter_sublist (l := List.range l.length) (p := Lib.keeps l.toArray))
  rw [h1] at h2
  exact h2

theorem compact_ok (l : List Int) (v : Value) (m : Hp) (hO : OwnL cI 1 3 m v l) (hl : l.length ≤ 2305843009213693951) (h : Hp) :
    FnT Try.prog 34 #[v] h [m] (fun r h' ms' => h = h' ∧ ∃ m', ms' = [m'] ∧ OwnL cI 1 3 m' r (Lib.compact l)) := by
  intro w hw
  have hle : (Lib.compact l).length ≤ l.length := (compact_sublist l).length_le
  obtain ⟨⟨e0, hown⟩, hF⟩ := hO
  rcases hown with ⟨rfl, e1, rfl⟩ | ⟨g, cap, spare, rfl, rfl, e1, e2, e3⟩
  · obtain rfl : l = [] := List.length_eq_zero_iff.1 e1
    refine (Try.slices_Compact_int_empty none 0 w).mono fun x w' ⟨hx, hw'⟩ => ?_
    subst hw'
    exact ⟨_, h, [Hp.emp], hx, Ends.refl hw, rfl, _, rfl, OwnL.nil cI_len⟩
  · have hcs : l.flatMap cI = l.map (Value.int .i64) := flatMap_cI l
    have hgw : w.heap[g]? = some (.cells (l.flatMap cI ++ spare).toArray 3 (0, 0)) := hw.own _ (List.mem_singleton.2 rfl) g _ (Hp.one_self _ _)
    have hH : Holds (Value.int .i64) w g 0 l.toArray := holds_of_blockI hgw (by rw [hcs]; simp)
    refine (Try.slices_Compact_int g 0 cap l w hH (by omega) e2).mono fun x w' ⟨hx, q, hw'⟩ => ?_
    generalize hts : Lib.compact l ++ List.replicate (l.length - (Lib.compact l).length) 0 = ts at hw'
    have htl : ts.length = l.length := by rw [← hts]; simp; omega
    have hb := heap_sortedI (n := q) (os := #[]) ts.toArray hgw
    have hgr := grownBy_sortedI (w := w) (g := g) (n := q) (os := #[]) ts.toArray
    rw [grow_empty] at hb hgr
    rw [← hw'] at hb hgr
    have htk := take_putCellsI (l.flatMap cI ++ spare).toArray ts (by rw [hcs]; simp; omega)
    have hsz : (putCells (Value.int .i64) 0 ts.toArray (l.flatMap cI ++ spare).toArray).size = cap * 1 := by simp [putCells]; simpa using e1
    generalize hpc : putCells (Value.int .i64) 0 ts.toArray (l.flatMap cI ++ spare).toArray = pc at hb htk hsz
    have hE := Ends.put (l' := pc.toList) (i := 0) (Ends.refl hw) rfl hgr.os hgr.tape hgr.output hgr.size (by simpa using hb) (fun k hk hne => hgr.block k hk (fun e => hne (by simpa using e)))
    have hk : pc.toList.take (Lib.compact l).length = (Lib.compact l).flatMap cI := by
      have h1 : pc.toList.take (Lib.compact l).length = (pc.toList.take ts.length).take (Lib.compact l).length := by rw [List.take_take, Nat.min_eq_left (by omega)]
      rw [h1, htk, ← hts, List.map_append, List.take_left' (by simp), flatMap_cI]
    refine ⟨_, h, _, hx, hE, rfl, _, rfl, ⟨?_, .inr ⟨g, cap, pc.toList.drop (Lib.compact l).length, rfl, ?_, ?_, by omega, e3⟩⟩, hF⟩
    · rw [flatMap_cI]; simp
    · rw [← hk, List.take_append_drop]
    · rw [← hk, List.take_append_drop]; simpa using hsz
end Go.Proofs.Ythdkhnjnhhofgaa
