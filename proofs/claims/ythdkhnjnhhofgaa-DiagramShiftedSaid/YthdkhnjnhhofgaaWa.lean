/- Walks: the small functions of the diagram package and its reference. -/
import Derived.Test.YthdkhnjnhhofgaaCm
set_option linter.unusedSimpArgs false
set_option linter.unusedVariables false
set_option maxRecDepth 100000
namespace Go.Proofs.Ythdkhnjnhhofgaa
open Go.Eng Go.RowKit

/-- A bar. -/
structure Br where
  dim : Int
  birth : Int
  death : Int
  opn : Bool
  low : Int
  high : Int
deriving DecidableEq

def cBr (b : Br) : List Value := [.int .i64 b.dim, .int .i64 b.birth, .int .i64 b.death, .bool b.opn, .int .i64 b.low, .int .i64 b.high]
theorem cBr_len : ∀ b, (cBr b).length = 6 := fun _ => rfl
theorem cBr_one : ∀ a, ∀ c ∈ cBr a, c.oneCell' = true := fun a c hc => by
  simp only [cBr, List.mem_cons, List.not_mem_nil, or_false] at hc
  rcases hc with rfl | rfl | rfl | rfl | rfl | rfl <;> rfl

/-- Numbers of a bar in reach. -/
structure BOk (b : Br) : Prop where
  b1 : -1000000000000 ≤ b.birth
  b2 : b.birth ≤ 1000000000000
  d1 : -1000000000000 ≤ b.death
  d2 : b.death ≤ 1000000000000

def Br.cnt (b : Br) : Bool := b.opn || decide (b.birth < b.death)
def Br.len (b : Br) : Int := b.death - b.birth
def iabs (n : Int) : Int := max n (-n)
def Br.apart (x y : Br) : Int := 2 * max (iabs (x.birth - y.birth)) (iabs (x.death - y.death))

theorem mod_ok (a b : Int) (ha : -9223372036854775808 ≤ a ∧ a ≤ 9223372036854775807) (hb : 1 ≤ b ∧ b ≤ 1000) (h : Hp) (ms : List Hp) : FnV Try.prog 24 #[.int .i64 a, .int .i64 b] h ms (.int .i64 (a % b)) := by
  refine FnV.weaken (FnT.toV ?_) (Hp.emp_le h)
  have h1 : a.tmod b < b := by have := Int.tmod_lt_of_pos a (show 0 < b by omega); omega
  have h2 : -b < a.tmod b := by have := Int.lt_tmod_of_pos a (show 0 < b by omega); omega
  have h3 : (a.tmod b + b) % b = a % b := by rw [Int.add_emod_right, Int.tmod_def, Int.sub_mul_emod_self_left]
  refine fn_enter Try.func24 Try.ntmps24 rfl rfl (fun w0 hw0 => ?_)
  simp only [argS]
  refine ws_seq ?_
  refine ws_region ?_
  refine wl_x (ox_assign rfl rfl) rfl rfl rfl ?_
  refine wl_nil ?_
  refine nx_then ?_
  refine ws_seq ?_
  refine ws_region ?_
  refine wl_x (ox_move rfl rfl) rfl rfl rfl ?_
  refine wl_x (ox_move rfl rfl) rfl rfl rfl ?_
  refine wl_x (ox_rem rfl rfl rfl (by omega)) rfl rfl rfl ?_
  refine wl_x (ox_move rfl rfl) rfl rfl rfl ?_
  refine wl_x (ox_add rfl rfl rfl (by omega)) rfl rfl rfl ?_
  refine wl_x (ox_move rfl rfl) rfl rfl rfl ?_
  first | refine wl_x (ox_remP rfl rfl rfl (by omega) (by omega)) rfl rfl rfl ?_ | refine wl_x (ox_rem rfl rfl rfl (by omega)) rfl rfl rfl ?_
  refine wl_x (ox_assign rfl rfl) rfl rfl rfl ?_
  refine wl_nil ?_
  refine nx_then ?_
  refine ws_ret ?_
  exact nx_ret1 rfl rfl (by rw [h3])

theorem abs_ok (a : Int) (ha : -9223372036854775807 ≤ a ∧ a ≤ 9223372036854775807) (h : Hp) (ms : List Hp) : FnV Try.prog 29 #[.int .i64 a] h ms (.int .i64 (iabs a)) := by
  refine FnV.weaken (FnT.toV ?_) (Hp.emp_le h)
  refine fn_enter Try.func29 Try.ntmps29 rfl rfl (fun w0 hw0 => ?_)
  simp only [argS]
  refine ws_seq ?_
  refine ws_region ?_
  refine wl_x (ox_assign rfl rfl) rfl rfl rfl ?_
  refine wl_nil ?_
  refine nx_then ?_
  refine ws_seq ?_
  refine ws_region ?_
  refine wl_x (ox_move rfl rfl) rfl rfl rfl ?_
  refine wl_x (ox_move rfl rfl) rfl rfl rfl ?_
  refine wl_x (ox_neg rfl rfl (by omega)) rfl rfl rfl ?_
  refine wl_x (ox_max rfl rfl rfl) rfl rfl rfl ?_
  refine wl_x (ox_assign rfl rfl) rfl rfl rfl ?_
  refine wl_nil ?_
  refine nx_then ?_
  refine ws_ret ?_
  exact nx_ret1 rfl rfl (rfl)
theorem rabs_ok (a : Int) (ha : -9223372036854775807 ≤ a ∧ a ≤ 9223372036854775807) (h : Hp) (ms : List Hp) : FnV Try.prog 40 #[.int .i64 a] h ms (.int .i64 (iabs a)) := by
  refine FnV.weaken (FnT.toV ?_) (Hp.emp_le h)
  refine fn_enter Try.func40 Try.ntmps40 rfl rfl (fun w0 hw0 => ?_)
  simp only [argS]
  refine ws_seq ?_
  refine ws_region ?_
  refine wl_x (ox_assign rfl rfl) rfl rfl rfl ?_
  refine wl_nil ?_
  refine nx_then ?_
  refine ws_seq ?_
  refine ws_region ?_
  refine wl_x (ox_move rfl rfl) rfl rfl rfl ?_
  refine wl_x (ox_move rfl rfl) rfl rfl rfl ?_
  refine wl_x (ox_neg rfl rfl (by omega)) rfl rfl rfl ?_
  refine wl_x (ox_max rfl rfl rfl) rfl rfl rfl ?_
  refine wl_x (ox_assign rfl rfl) rfl rfl rfl ?_
  refine wl_nil ?_
  refine nx_then ?_
  refine ws_ret ?_
  exact nx_ret1 rfl rfl (rfl)
theorem iabs_bd {a : Int} {M : Int} (h : -M ≤ a ∧ a ≤ M) : 0 ≤ iabs a ∧ iabs a ≤ M := by unfold iabs; omega
theorem bar_ok (a b : Int) (h : Hp) (ms : List Hp) : FnV Try.prog 22 #[.int .i64 a, .int .i64 b] h ms (.agg (cBr ⟨1, a, b, false, 0, 0⟩).toArray) := by
  refine FnV.weaken (FnT.toV ?_) (Hp.emp_le h)
  refine fn_enter Try.func22 Try.ntmps22 rfl rfl (fun w0 hw0 => ?_)
  simp only [argS]
  refine ws_seq ?_
  refine ws_region ?_
  refine wl_alloc [.int .i64 0, .int .i64 0, .int .i64 0, .bool false, .int .i64 0, .int .i64 0] rfl el40 rfl rfl rfl rfl (fun g4 => ?_)
  refine wl_nil ?_
  refine nx_then ?_
  refine ws_seq ?_
  refine ws_region ?_
  refine wl_x (ox_move rfl rfl) rfl rfl rfl ?_
  refine wl_x (ox_move rfl rfl) rfl rfl rfl ?_
  refine wl_x (ox_buildS st40 [.int .i64 0, .int .i64 0, .int .i64 0, .bool false, .int .i64 0, .int .i64 0] [(0, _), (1, _), (2, _)] [_, _, _, _, _, _] rfl el40 rfl rfl (by repeat (first | exact trivial | refine ⟨⟨rfl, rfl, rfl⟩, ?_⟩)) rfl) rfl rfl rfl ?_
  first | refine wl_storeAll 0 [_, _, _, _, _, _] rfl el40 rfl rfl rfl (by simp [Value.oneCell']) rfl rfl rfl rfl rfl ?_ | refine wl_storeAll 1 [_, _, _, _, _, _] rfl el40 rfl rfl rfl (by simp [Value.oneCell']) rfl rfl rfl rfl rfl ?_ | refine wl_storeAll 2 [_, _, _, _, _, _] rfl el40 rfl rfl rfl (by simp [Value.oneCell']) rfl rfl rfl rfl rfl ?_ | refine wl_storeAll 3 [_, _, _, _, _, _] rfl el40 rfl rfl rfl (by simp [Value.oneCell']) rfl rfl rfl rfl rfl ?_ | refine wl_storeAll 4 [_, _, _, _, _, _] rfl el40 rfl rfl rfl (by simp [Value.oneCell']) rfl rfl rfl rfl rfl ?_
  refine wl_nil ?_
  refine nx_then ?_
  refine ws_ret ?_
  refine nx_retC rfl rfl Try.underlying40 rfl el40 rfl (Seg.blk 0 rfl) rfl
theorem open_ok (a : Int) (h : Hp) (ms : List Hp) : FnV Try.prog 23 #[.int .i64 a] h ms (.agg (cBr ⟨1, a, 0, true, 0, 0⟩).toArray) := by
  refine FnV.weaken (FnT.toV ?_) (Hp.emp_le h)
  refine fn_enter Try.func23 Try.ntmps23 rfl rfl (fun w0 hw0 => ?_)
  simp only [argS]
  refine ws_seq ?_
  refine ws_region ?_
  refine wl_alloc [.int .i64 0, .int .i64 0, .int .i64 0, .bool false, .int .i64 0, .int .i64 0] rfl el40 rfl rfl rfl rfl (fun g2 => ?_)
  refine wl_nil ?_
  refine nx_then ?_
  refine ws_seq ?_
  refine ws_region ?_
  refine wl_x (ox_move rfl rfl) rfl rfl rfl ?_
  refine wl_x (ox_buildS st40 [.int .i64 0, .int .i64 0, .int .i64 0, .bool false, .int .i64 0, .int .i64 0] [(0, _), (1, _), (3, _)] [_, _, _, _, _, _] rfl el40 rfl rfl (by repeat (first | exact trivial | refine ⟨⟨rfl, rfl, rfl⟩, ?_⟩)) rfl) rfl rfl rfl ?_
  first | refine wl_storeAll 0 [_, _, _, _, _, _] rfl el40 rfl rfl rfl (by simp [Value.oneCell']) rfl rfl rfl rfl rfl ?_ | refine wl_storeAll 1 [_, _, _, _, _, _] rfl el40 rfl rfl rfl (by simp [Value.oneCell']) rfl rfl rfl rfl rfl ?_ | refine wl_storeAll 2 [_, _, _, _, _, _] rfl el40 rfl rfl rfl (by simp [Value.oneCell']) rfl rfl rfl rfl rfl ?_ | refine wl_storeAll 3 [_, _, _, _, _, _] rfl el40 rfl rfl rfl (by simp [Value.oneCell']) rfl rfl rfl rfl rfl ?_ | refine wl_storeAll 4 [_, _, _, _, _, _] rfl el40 rfl rfl rfl (by simp [Value.oneCell']) rfl rfl rfl rfl rfl ?_
  refine wl_nil ?_
  refine nx_then ?_
  refine ws_ret ?_
  refine nx_retC rfl rfl Try.underlying40 rfl el40 rfl (Seg.blk 0 rfl) rfl
theorem counts_ok (b : Br) (h : Hp) (ms : List Hp) : FnV Try.prog 31 #[.agg (cBr b).toArray] h ms (.bool b.cnt) := by
  refine FnV.weaken (FnT.toV ?_) (Hp.emp_le h)
  refine fn_enter Try.func31 Try.ntmps31 rfl rfl (fun w0 hw0 => ?_)
  simp only [argS]
  refine ws_seq ?_
  refine ws_region ?_
  refine wl_box [_, _, _, _, _, _] rfl rfl (by first | rfl | exact Rd.cells ‹_› | exact (RdL.rd ‹_›).cells) rfl rfl rfl (fun g1 => ?_)
  refine wl_x (ox_assign rfl rfl) rfl rfl rfl ?_
  refine wl_nil ?_
  refine nx_then ?_
  refine ws_seq ?_
  refine ws_region ?_
  refine wl_x (ox_fieldF fd40_3 rfl rfl) rfl rfl rfl ?_
  refine wl_x (ox_load rfl Try.underlying4 rfl rfl (by first | exact Cell.blk 0 rfl rfl | exact Cell.blk 1 rfl rfl | exact Cell.blk 2 rfl rfl | exact Cell.blk 3 rfl rfl | exact Cell.blk 4 rfl rfl)) rfl rfl rfl ?_
  refine wl_x (ox_move rfl rfl) rfl rfl rfl ?_
  refine wl_splitb (t := 5) rfl (fun hs => ?_) (fun hs => ?_)
  · skip
    refine wl_skip rfl rfl rfl rfl rfl rfl rfl ?_
    refine wl_skip rfl rfl rfl rfl rfl rfl rfl ?_
    refine wl_skip rfl rfl rfl rfl rfl rfl rfl ?_
    refine wl_skip rfl rfl rfl rfl rfl rfl rfl ?_
    refine wl_skip rfl rfl rfl rfl rfl rfl rfl ?_
    refine wl_x (ox_pick_t rfl rfl rfl) rfl rfl rfl ?_
    refine wl_x (ox_assign rfl rfl) rfl rfl rfl ?_
    refine wl_nil ?_
    refine nx_then ?_
    refine ws_ret ?_
    exact nx_ret1 rfl rfl (by simp [Br.cnt, hs])
  · skip
    refine wl_gx (ox_fieldF fd40_2 rfl rfl) rfl rfl rfl rfl rfl rfl ?_
    refine wl_gx (ox_load rfl Try.underlying3 rfl rfl (by first | exact Cell.blk 0 rfl rfl | exact Cell.blk 1 rfl rfl | exact Cell.blk 2 rfl rfl | exact Cell.blk 3 rfl rfl | exact Cell.blk 4 rfl rfl)) rfl rfl rfl rfl rfl rfl ?_
    refine wl_gx (ox_fieldF fd40_1 rfl rfl) rfl rfl rfl rfl rfl rfl ?_
    refine wl_gx (ox_load rfl Try.underlying3 rfl rfl (by first | exact Cell.blk 0 rfl rfl | exact Cell.blk 1 rfl rfl | exact Cell.blk 2 rfl rfl | exact Cell.blk 3 rfl rfl | exact Cell.blk 4 rfl rfl)) rfl rfl rfl rfl rfl rfl ?_
    refine wl_gx (ox_gtr rfl rfl rfl) rfl rfl rfl rfl rfl rfl ?_
    refine wl_x (ox_pick_f rfl rfl rfl) rfl rfl rfl ?_
    refine wl_x (ox_assign rfl rfl) rfl rfl rfl ?_
    refine wl_nil ?_
    refine nx_then ?_
    refine ws_ret ?_
    exact nx_ret1 rfl rfl (by simp [Br.cnt, hs])
theorem length_ok (b : Br) (hb : BOk b) (h : Hp) (ms : List Hp) : FnV Try.prog 32 #[.agg (cBr b).toArray] h ms (.int .i64 b.len) := by
  refine FnV.weaken (FnT.toV ?_) (Hp.emp_le h)
  obtain ⟨b1, b2, b3, b4⟩ := hb
  refine fn_enter Try.func32 Try.ntmps32 rfl rfl (fun w0 hw0 => ?_)
  simp only [argS]
  refine ws_seq ?_
  refine ws_region ?_
  refine wl_box [_, _, _, _, _, _] rfl rfl (by first | rfl | exact Rd.cells ‹_› | exact (RdL.rd ‹_›).cells) rfl rfl rfl (fun g1 => ?_)
  refine wl_x (ox_assign rfl rfl) rfl rfl rfl ?_
  refine wl_nil ?_
  refine nx_then ?_
  refine ws_seq ?_
  refine ws_region ?_
  refine wl_x (ox_fieldF fd40_2 rfl rfl) rfl rfl rfl ?_
  refine wl_x (ox_load rfl Try.underlying3 rfl rfl (by first | exact Cell.blk 0 rfl rfl | exact Cell.blk 1 rfl rfl | exact Cell.blk 2 rfl rfl | exact Cell.blk 3 rfl rfl | exact Cell.blk 4 rfl rfl)) rfl rfl rfl ?_
  refine wl_x (ox_fieldF fd40_1 rfl rfl) rfl rfl rfl ?_
  refine wl_x (ox_load rfl Try.underlying3 rfl rfl (by first | exact Cell.blk 0 rfl rfl | exact Cell.blk 1 rfl rfl | exact Cell.blk 2 rfl rfl | exact Cell.blk 3 rfl rfl | exact Cell.blk 4 rfl rfl)) rfl rfl rfl ?_
  refine wl_x (ox_sub rfl rfl rfl (by omega)) rfl rfl rfl ?_
  refine wl_x (ox_assign rfl rfl) rfl rfl rfl ?_
  refine wl_nil ?_
  refine nx_then ?_
  refine ws_ret ?_
  exact nx_ret1 rfl rfl (rfl)
theorem apart_ok (x y : Br) (hx : BOk x) (hy : BOk y) (h : Hp) (ms : List Hp) : FnV Try.prog 33 #[.agg (cBr x).toArray, .agg (cBr y).toArray] h ms (.int .i64 (x.apart y)) := by
  refine FnV.weaken (FnT.toV ?_) (Hp.emp_le h)
  obtain ⟨x1, x2, x3, x4⟩ := hx
  obtain ⟨y1, y2, y3, y4⟩ := hy
  have hi1 := iabs_bd (a := x.birth - y.birth) (M := 2000000000000) (by omega)
  have hi2 := iabs_bd (a := x.death - y.death) (M := 2000000000000) (by omega)
  refine fn_enter Try.func33 Try.ntmps33 rfl rfl (fun w0 hw0 => ?_)
  simp only [argS]
  refine ws_seq ?_
  refine ws_region ?_
  refine wl_box [_, _, _, _, _, _] rfl rfl (by first | rfl | exact Rd.cells ‹_› | exact (RdL.rd ‹_›).cells) rfl rfl rfl (fun g2 => ?_)
  refine wl_box [_, _, _, _, _, _] rfl rfl (by first | rfl | exact Rd.cells ‹_› | exact (RdL.rd ‹_›).cells) rfl rfl rfl (fun g3 => ?_)
  refine wl_x (ox_assign rfl rfl) rfl rfl rfl ?_
  refine wl_nil ?_
  refine nx_then ?_
  refine ws_seq ?_
  refine ws_draw 11 fol (by kernel_rfl) rfl ?_
  simp only [List.take_succ_cons, List.take_zero, List.drop_succ_cons, List.drop_zero, List.take_nil, List.drop_nil]
  refine wr_x (ox_fieldF fd40_1 rfl rfl) rfl rfl ?_
  refine wr_x (ox_load rfl Try.underlying3 rfl rfl (by first | exact Cell.blk 0 rfl rfl | exact Cell.blk 1 rfl rfl | exact Cell.blk 2 rfl rfl | exact Cell.blk 3 rfl rfl | exact Cell.blk 4 rfl rfl)) rfl rfl ?_
  refine wr_x (ox_fieldF fd40_1 rfl rfl) rfl rfl ?_
  refine wr_x (ox_load rfl Try.underlying3 rfl rfl (by first | exact Cell.blk 0 rfl rfl | exact Cell.blk 1 rfl rfl | exact Cell.blk 2 rfl rfl | exact Cell.blk 3 rfl rfl | exact Cell.blk 4 rfl rfl)) rfl rfl ?_
  refine wr_x (ox_sub rfl rfl rfl (by omega)) rfl rfl ?_
  refine wr_x (ox_call rfl Try.call29 rfl (abs_ok _ (by omega) _ _)) rfl rfl ?_
  refine wr_x (ox_fieldF fd40_2 rfl rfl) rfl rfl ?_
  refine wr_x (ox_load rfl Try.underlying3 rfl rfl (by first | exact Cell.blk 0 rfl rfl | exact Cell.blk 1 rfl rfl | exact Cell.blk 2 rfl rfl | exact Cell.blk 3 rfl rfl | exact Cell.blk 4 rfl rfl)) rfl rfl ?_
  refine wr_x (ox_fieldF fd40_2 rfl rfl) rfl rfl ?_
  refine wr_x (ox_load rfl Try.underlying3 rfl rfl (by first | exact Cell.blk 0 rfl rfl | exact Cell.blk 1 rfl rfl | exact Cell.blk 2 rfl rfl | exact Cell.blk 3 rfl rfl | exact Cell.blk 4 rfl rfl)) rfl rfl ?_
  refine wr_x (ox_sub rfl rfl rfl (by omega)) rfl rfl ?_
  refine wr_nil ?_
  refine wl_x (ox_call rfl Try.call29 rfl (abs_ok _ (by omega) _ _)) rfl rfl rfl ?_
  refine wl_x (ox_max rfl rfl rfl) rfl rfl rfl ?_
  refine wl_x (ox_mul rfl rfl rfl (by omega)) rfl rfl rfl ?_
  refine wl_x (ox_assign rfl rfl) rfl rfl rfl ?_
  refine wl_nil ?_
  refine nx_then ?_
  refine ws_ret ?_
  exact nx_ret1 rfl rfl (rfl)
theorem rapart_ok (x y : Br) (hx : BOk x) (hy : BOk y) (h : Hp) (ms : List Hp) : FnV Try.prog 41 #[.agg (cBr x).toArray, .agg (cBr y).toArray] h ms (.int .i64 (x.apart y)) := by
  refine FnV.weaken (FnT.toV ?_) (Hp.emp_le h)
  obtain ⟨x1, x2, x3, x4⟩ := hx
  obtain ⟨y1, y2, y3, y4⟩ := hy
  have hi1 := iabs_bd (a := x.birth - y.birth) (M := 2000000000000) (by omega)
  have hi2 := iabs_bd (a := x.death - y.death) (M := 2000000000000) (by omega)
  refine fn_enter Try.func41 Try.ntmps41 rfl rfl (fun w0 hw0 => ?_)
  simp only [argS]
  refine ws_seq ?_
  refine ws_region ?_
  refine wl_box [_, _, _, _, _, _] rfl rfl (by first | rfl | exact Rd.cells ‹_› | exact (RdL.rd ‹_›).cells) rfl rfl rfl (fun g2 => ?_)
  refine wl_box [_, _, _, _, _, _] rfl rfl (by first | rfl | exact Rd.cells ‹_› | exact (RdL.rd ‹_›).cells) rfl rfl rfl (fun g3 => ?_)
  refine wl_x (ox_assign rfl rfl) rfl rfl rfl ?_
  refine wl_nil ?_
  refine nx_then ?_
  refine ws_seq ?_
  refine ws_draw 11 fol (by kernel_rfl) rfl ?_
  simp only [List.take_succ_cons, List.take_zero, List.drop_succ_cons, List.drop_zero, List.take_nil, List.drop_nil]
  refine wr_x (ox_fieldF fd40_1 rfl rfl) rfl rfl ?_
  refine wr_x (ox_load rfl Try.underlying3 rfl rfl (by first | exact Cell.blk 0 rfl rfl | exact Cell.blk 1 rfl rfl | exact Cell.blk 2 rfl rfl | exact Cell.blk 3 rfl rfl | exact Cell.blk 4 rfl rfl)) rfl rfl ?_
  refine wr_x (ox_fieldF fd40_1 rfl rfl) rfl rfl ?_
  refine wr_x (ox_load rfl Try.underlying3 rfl rfl (by first | exact Cell.blk 0 rfl rfl | exact Cell.blk 1 rfl rfl | exact Cell.blk 2 rfl rfl | exact Cell.blk 3 rfl rfl | exact Cell.blk 4 rfl rfl)) rfl rfl ?_
  refine wr_x (ox_sub rfl rfl rfl (by omega)) rfl rfl ?_
  refine wr_x (ox_call rfl Try.call40 rfl (rabs_ok _ (by omega) _ _)) rfl rfl ?_
  refine wr_x (ox_fieldF fd40_2 rfl rfl) rfl rfl ?_
  refine wr_x (ox_load rfl Try.underlying3 rfl rfl (by first | exact Cell.blk 0 rfl rfl | exact Cell.blk 1 rfl rfl | exact Cell.blk 2 rfl rfl | exact Cell.blk 3 rfl rfl | exact Cell.blk 4 rfl rfl)) rfl rfl ?_
  refine wr_x (ox_fieldF fd40_2 rfl rfl) rfl rfl ?_
  refine wr_x (ox_load rfl Try.underlying3 rfl rfl (by first | exact Cell.blk 0 rfl rfl | exact Cell.blk 1 rfl rfl | exact Cell.blk 2 rfl rfl | exact Cell.blk 3 rfl rfl | exact Cell.blk 4 rfl rfl)) rfl rfl ?_
  refine wr_x (ox_sub rfl rfl rfl (by omega)) rfl rfl ?_
  refine wr_nil ?_
  refine wl_x (ox_call rfl Try.call40 rfl (rabs_ok _ (by omega) _ _)) rfl rfl rfl ?_
  refine wl_x (ox_max rfl rfl rfl) rfl rfl rfl ?_
  refine wl_x (ox_mul rfl rfl rfl (by omega)) rfl rfl rfl ?_
  refine wl_x (ox_assign rfl rfl) rfl rfl rfl ?_
  refine wl_nil ?_
  refine nx_then ?_
  refine ws_ret ?_
  exact nx_ret1 rfl rfl (rfl)

/-! filtered, at bars -/
theorem filtered_ok (l : List Br) (vl : Value) (cf : FuncId) (cs : List Value) (p : Br → Bool) (h : Hp) (hR : RdL cBr 6 h [] vl l) (hl : l.length ≤ 1000000000)
    (hc : ∀ xs w, (callFunc cf xs).run Try.prog w = .ok (.enter cf xs) w)
    (hp : ∀ b ∈ l, ∀ ms, FnV Try.prog cf ([] ++ [Value.agg (cBr b).toArray] ++ cs).toArray h ms (.bool (p b))) :
    FnT Try.prog 26 #[vl, .func (.func cf) #[] cs.toArray] h [] (fun r h' ms' => ms' = [] ∧ RdL cBr 6 h' [] r (l.filter p)) := by
  refine fn_enter Try.func26 Try.ntmps26 rfl rfl (fun w0 hw0 => ?_)
  simp only [argS]
  refine ws_seq ?_
  refine ws_region ?_
  refine wl_x (ox_assign rfl rfl) rfl rfl rfl ?_
  refine wl_nil ?_
  refine nx_then ?_
  refine ws_seq ?_
  refine ws_region ?_
  refine wl_x (ox_assign rfl rfl) rfl rfl rfl ?_
  refine wl_nil ?_
  refine nx_then ?_
  refine ws_seq ?_
  refine ws_seq ?_
  refine ws_region ?_
  refine wl_x (ox_move rfl rfl) rfl rfl rfl ?_
  first | refine wl_x (ox_len (ty := 25) rfl Try.underlying25 rfl) rfl rfl rfl ?_ | refine wl_x (ox_lenR hR.rd.any rfl Try.underlying25 rfl) rfl rfl rfl ?_
  refine wl_x (ox_move rfl rfl) rfl rfl rfl ?_
  refine wl_nil ?_
  refine nx_then ?_
  refine ws_block ?_
  refine ws_emp ?_
  refine ws_loop (fun n s h' ms' => ∃ (k : Nat) (v : Value) (m : Hp), n = l.length - k ∧ s = [(1, .func (.func cf) #[] cs.toArray), (8, vl), (9, .int .i64 l.length), (10, .int .i64 k), (5, v)] ∧ h' = h ∧ ms' = [m] ∧ k ≤ l.length ∧ OwnL cBr 6 40 m v ((l.take k).filter p))
    (l.length - 0) _ ⟨0, _, _, rfl, rfl, rfl, rfl, by omega, OwnL.nil cBr_len⟩ (by repeat (first | exact trivial | refine ⟨rfl, ?_⟩)) ?_
  rintro n s h' ms' ⟨k, v, m, rfl, rfl, rfl, rfl, hk, hO⟩
  have hO2 := hO.own.1
  refine ws_seq ?_
  refine ws_region ?_
  refine wl_x (ox_lss rfl rfl rfl) rfl rfl rfl ?_
  refine wl_nil ?_
  refine nx_then ?_
  refine ws_seq ?_
  refine ws_if rfl (fun hlt => ?_) (fun hlt => ?_)
  · skip
    have hlt' : k < l.length := by omega
    have hmem : l[k] ∈ l := List.getElem_mem hlt'
    have hts := take_succ_filter l p k hlt'
    refine ws_skip ?_
    refine nx_then ?_
    refine ws_seq ?_
    refine ws_block ?_
    refine ws_seq ?_
    refine ws_region ?_
    first | refine wl_x (ox_index _ rfl Try.underlying25 el40 rfl rfl rfl (by omega)) rfl rfl rfl ?_ | refine wl_x (ox_indexR _ hR.rd.any rfl Try.underlying25 el40 rfl rfl rfl (by omega)) rfl rfl rfl ?_
    refine wl_x (ox_loadG rfl Try.underlying40 rfl el40 rfl rfl (by first | exact hR.any.seg hlt')) rfl rfl rfl ?_
    refine wl_alloc [.int .i64 0, .int .i64 0, .int .i64 0, .bool false, .int .i64 0, .int .i64 0] rfl el40 rfl rfl rfl rfl (fun g7 => ?_)
    first | refine wl_storeAll 0 _ rfl el40 rfl rfl rfl (by exact cBr_one _) rfl (by first | rfl | simp) (by first | rfl | simp) rfl rfl ?_ | refine wl_storeAll 1 _ rfl el40 rfl rfl rfl (by exact cBr_one _) rfl (by first | rfl | simp) (by first | rfl | simp) rfl rfl ?_ | refine wl_storeAll 2 _ rfl el40 rfl rfl rfl (by exact cBr_one _) rfl (by first | rfl | simp) (by first | rfl | simp) rfl rfl ?_ | refine wl_storeAll 3 _ rfl el40 rfl rfl rfl (by exact cBr_one _) rfl (by first | rfl | simp) (by first | rfl | simp) rfl rfl ?_ | refine wl_storeAll 4 _ rfl el40 rfl rfl rfl (by exact cBr_one _) rfl (by first | rfl | simp) (by first | rfl | simp) rfl rfl ?_
    refine wl_nil ?_
    refine nx_then ?_
    refine ws_seq ?_
    refine ws_region ?_
    refine wl_x (ox_move rfl rfl) rfl rfl rfl ?_
    refine wl_x (ox_loadG rfl Try.underlying40 rfl el40 rfl rfl (by first | exact Seg.blk 0 rfl | exact Seg.blk 1 rfl | exact Seg.blk 2 rfl | exact Seg.blk 3 rfl | exact Seg.blk 4 rfl | exact hR.any.seg hlt')) rfl rfl rfl ?_
    refine wl_x (ox_callv rfl rfl hc rfl (hp _ hmem _)) rfl rfl rfl ?_
    refine wl_nil ?_
    refine nx_then ?_
    refine ws_cond rfl (fun hpk => ?_) (fun hpk => ?_)
    · skip
      refine ws_region ?_
      refine wl_x (ox_move rfl rfl) rfl rfl rfl ?_
      refine wl_x (ox_loadG rfl Try.underlying40 rfl el40 rfl rfl (by first | exact Seg.blk 0 rfl | exact Seg.blk 1 rfl | exact Seg.blk 2 rfl | exact Seg.blk 3 rfl | exact Seg.blk 4 rfl | exact Seg.blk 0 rfl | exact hR.any.seg hlt')) rfl rfl rfl ?_
      refine wl_buildSlice1 _ rfl Try.underlying25 el40 rfl (by first | rfl | exact Rd.cells ‹_› | exact (RdL.rd ‹_›).cells) (by first | rfl | simp) rfl (by omega) rfl rfl rfl (fun g19 => ?_)
      have hfl : ((l.take k).filter p).length ≤ k := Nat.le_trans (List.length_filter_le _ _) (by rw [List.length_take]; omega)
      refine wl_appendL 2 hO (RdL.one cBr_len (List.Mem.head _) rfl) rfl Try.underlying25 el40 rfl (by omega) rfl rfl rfl cBr_one (by simp; omega) (by simp; omega) rfl rfl rfl (fun v' m' hO' => ?_)
      refine wl_x (ox_assign rfl rfl) rfl rfl rfl ?_
      refine wl_nil ?_
      refine nx_block ?_
      refine nx_then ?_
      refine ws_region ?_
      refine wl_x (ox_add rfl rfl rfl (by omega)) rfl rfl rfl ?_
      refine wl_x (ox_move rfl rfl) rfl rfl rfl ?_
      refine wl_nil ?_
      refine nx_drop (nx_drop ?_)
      refine nx_round (l.length - (k + 1)) _ (by omega) ⟨k + 1, v', m', rfl, rfl, rfl, rfl, by omega, by rw [hts, if_pos hpk]; exact hO'⟩ (by repeat (first | exact trivial | refine ⟨rfl, ?_⟩))
    · skip
      refine ws_skip ?_
      refine nx_block ?_
      refine nx_then ?_
      refine ws_region ?_
      refine wl_x (ox_add rfl rfl rfl (by omega)) rfl rfl rfl ?_
      refine wl_x (ox_move rfl rfl) rfl rfl rfl ?_
      refine wl_nil ?_
      refine nx_drop ?_
      refine nx_round (l.length - (k + 1)) _ (by omega) ⟨k + 1, v, m, rfl, rfl, rfl, rfl, by omega, by rw [hts, if_neg (by simp [hpk]), List.append_nil]; exact hO⟩ (by repeat (first | exact trivial | refine ⟨rfl, ?_⟩))
  · skip
    refine ws_exit ?_
    refine nx_then_exit ?_
    refine nx_then_exit ?_
    refine nx_block_exit ?_
    refine nx_then ?_
    refine ws_seq ?_
    refine ws_region ?_
    refine wl_x (ox_move rfl rfl) rfl rfl rfl ?_
    refine wl_x (ox_assign rfl rfl) rfl rfl rfl ?_
    refine wl_nil ?_
    refine nx_then ?_
    refine ws_ret ?_
    have hkl : l.take k = l := List.take_of_length_le (by omega)
    rw [hkl] at hO
    refine nx_freezeL hO (fun h' hle hR' => ?_)
    exact nx_ret1 rfl rfl (⟨rfl, hR'⟩)
end Go.Proofs.Ythdkhnjnhhofgaa
