/- Walks: the small functions of the diagram package and its reference. -/
import Derived.Test.YthdkhnjnhhofgaaSA
import Derived.Test.YthdkhnjnhhofgaaEB
import Derived.Test.YthdkhnjnhhofgaaKa
set_option linter.unusedSimpArgs false
set_option linter.unusedVariables false
set_option maxRecDepth 100000
namespace Go.Proofs.Ythdkhnjnhhofgaa
open Go.Eng Go.RowKit

/-- A bar. -/
structure Br where
  dim : Int
  birth : Int
  death : Int
  opn : Bool
  low : Int
  high : Int
deriving DecidableEq

def cBr (b : Br) : List Value := [.int .i64 b.dim, .int .i64 b.birth, .int .i64 b.death, .bool b.opn, .int .i64 b.low, .int .i64 b.high]
theorem cBr_len : ∀ b, (cBr b).length = 6 := fun _ => rfl
theorem cBr_one : ∀ a, ∀ c ∈ cBr a, c.oneCell' = true := fun a c hc => by
  simp only [cBr, List.mem_cons, List.not_mem_nil, or_false] at hc
  rcases hc with rfl | rfl | rfl | rfl | rfl | rfl <;> rfl

/-- Numbers of a bar in reach. -/
structure BOk (b : Br) : Prop where
  b1 : -1000000000000 ≤ b.birth
  b2 : b.birth ≤ 1000000000000
  d1 : -1000000000000 ≤ b.death
  d2 : b.death ≤ 1000000000000

def Br.cnt (b : Br) : Bool := b.opn || decide (b.birth < b.death)
def Br.len (b : Br) : Int := b.death - b.birth
def iabs (n : Int) : Int := max n (-n)
def Br.apart (x y : Br) : Int := 2 * max (iabs (x.birth - y.birth)) (iabs (x.death - y.death))

theorem mod_ok (a b : Int) (ha : -9223372036854775808 ≤ a ∧ a ≤ 9223372036854775807) (hb : 1 ≤ b ∧ b ≤ 1000) (h : Hp) (ms : List Hp) : FnV Try.prog 24 #[.int .i64 a, .int .i64 b] h ms (.int .i64 (a % b)) := by
  refine FnV.weaken (FnT.toV ?_) (Hp.emp_le h)
  have h1 : a.tmod b < b := by have := Int.tmod_lt_of_pos a (show 0 < b by omega); omega
  have h2 : -b < a.tmod b := by have := Int.lt_tmod_of_pos a (show 0 < b by omega); omega
  have h3 : (a.tmod b + b) % b = a % b := by rw [Int.add_emod_right, Int.tmod_def, Int.sub_mul_emod_self_left]
  refine fn_enter Try.func24 Try.ntmps24 rfl rfl (fun w0 hw0 => ?_)
  simp only [argS]
  refine ws_seq ?_
  refine ws_region ?_
  refine wl_x (ox_assign rfl rfl) rfl rfl rfl ?_
  refine wl_nil ?_
  refine nx_then ?_
  refine ws_seq ?_
  refine ws_region ?_
  refine wl_x (ox_move rfl rfl) rfl rfl rfl ?_
  refine wl_x (ox_move rfl rfl) rfl rfl rfl ?_
  refine wl_x (ox_rem rfl rfl rfl (by omega)) rfl rfl rfl ?_
  refine wl_x (ox_move rfl rfl) rfl rfl rfl ?_
  refine wl_x (ox_add rfl rfl rfl (by omega)) rfl rfl rfl ?_
  refine wl_x (ox_move rfl rfl) rfl rfl rfl ?_
  first | refine wl_x (ox_remP rfl rfl rfl (by omega) (by omega)) rfl rfl rfl ?_ | refine wl_x (ox_rem rfl rfl rfl (by omega)) rfl rfl rfl ?_
  refine wl_x (ox_assign rfl rfl) rfl rfl rfl ?_
  refine wl_nil ?_
  refine nx_then ?_
  refine ws_ret ?_
  exact nx_ret1 rfl rfl (by rw [h3])

theorem abs_ok (a : Int) (ha : -9223372036854775807 ≤ a ∧ a ≤ 9223372036854775807) (h : Hp) (ms : List Hp) : FnV Try.prog 29 #[.int .i64 a] h ms (.int .i64 (iabs a)) := by
  refine FnV.weaken (FnT.toV ?_) (Hp.emp_le h)
  refine fn_enter Try.func29 Try.ntmps29 rfl rfl (fun w0 hw0 => ?_)
  simp only [argS]
  refine ws_seq ?_
  refine ws_region ?_
  refine wl_x (ox_assign rfl rfl) rfl rfl rfl ?_
  refine wl_nil ?_
  refine nx_then ?_
  refine ws_seq ?_
  refine ws_region ?_
  refine wl_x (ox_move rfl rfl) rfl rfl rfl ?_
  refine wl_x (ox_move rfl rfl) rfl rfl rfl ?_
  refine wl_x (ox_neg rfl rfl (by omega)) rfl rfl rfl ?_
  refine wl_x (ox_max rfl rfl rfl) rfl rfl rfl ?_
  refine wl_x (ox_assign rfl rfl) rfl rfl rfl ?_
  refine wl_nil ?_
  refine nx_then ?_
  refine ws_ret ?_
  exact nx_ret1 rfl rfl (rfl)
theorem rabs_ok (a : Int) (ha : -9223372036854775807 ≤ a ∧ a ≤ 9223372036854775807) (h : Hp) (ms : List Hp) : FnV Try.prog 40 #[.int .i64 a] h ms (.int .i64 (iabs a)) := by
  refine FnV.weaken (FnT.toV ?_) (Hp.emp_le h)
  refine fn_enter Try.func40 Try.ntmps40 rfl rfl (fun w0 hw0 => ?_)
  simp only [argS]
  refine ws_seq ?_
  refine ws_region ?_
  refine wl_x (ox_assign rfl rfl) rfl rfl rfl ?_
  refine wl_nil ?_
  refine nx_then ?_
  refine ws_seq ?_
  refine ws_region ?_
  refine wl_x (ox_move rfl rfl) rfl rfl rfl ?_
  refine wl_x (ox_move rfl rfl) rfl rfl rfl ?_
  refine wl_x (ox_neg rfl rfl (by omega)) rfl rfl rfl ?_
  refine wl_x (ox_max rfl rfl rfl) rfl rfl rfl ?_
  refine wl_x (ox_assign rfl rfl) rfl rfl rfl ?_
  refine wl_nil ?_
  refine nx_then ?_
  refine ws_ret ?_
  exact nx_ret1 rfl rfl (rfl)
theorem iabs_bd {a : Int} {M : Int} (h : -M ≤ a ∧ a ≤ M) : 0 ≤ iabs a ∧ iabs a ≤ M := by unfold iabs; omega
theorem bar_ok (a b : Int) (h : Hp) (ms : List Hp) : FnV Try.prog 22 #[.int .i64 a, .int .i64 b] h ms (.agg (cBr ⟨1, a, b, false, 0, 0⟩).toArray) := by
  refine FnV.weaken (FnT.toV ?_) (Hp.emp_le h)
  refine fn_enter Try.func22 Try.ntmps22 rfl rfl (fun w0 hw0 => ?_)
  simp only [argS]
  refine ws_seq ?_
  refine ws_region ?_
  refine wl_alloc [.int .i64 0, .int .i64 0, .int .i64 0, .bool false, .int .i64 0, .int .i64 0] rfl el40 rfl rfl rfl rfl (fun g4 => ?_)
  refine wl_nil ?_
  refine nx_then ?_
  refine ws_seq ?_
  refine ws_region ?_
  refine wl_x (ox_move rfl rfl) rfl rfl rfl ?_
  refine wl_x (ox_move rfl rfl) rfl rfl rfl ?_
  refine wl_x (ox_buildS st40 [.int .i64 0, .int .i64 0, .int .i64 0, .bool false, .int .i64 0, .int .i64 0] [(0, _), (1, _), (2, _)] [_, _, _, _, _, _] rfl el40 rfl rfl (by repeat (first | exact trivial | refine ⟨⟨rfl, rfl, rfl⟩, ?_⟩)) rfl) rfl rfl rfl ?_
  first | refine wl_storeAll 0 [_, _, _, _, _, _] rfl el40 rfl rfl rfl (by first | (simp [Value.oneCell']; done) | (simp [Value.oneCell']; done) | simp [Value.oneCell', Value.oneCell']) rfl rfl rfl rfl rfl ?_ | refine wl_storeAll 1 [_, _, _, _, _, _] rfl el40 rfl rfl rfl (by first | (simp [Value.oneCell']; done) | (simp [Value.oneCell']; done) | simp [Value.oneCell', Value.oneCell']) rfl rfl rfl rfl rfl ?_ | refine wl_storeAll 2 [_, _, _, _, _, _] rfl el40 rfl rfl rfl (by first | (simp [Value.oneCell']; done) | (simp [Value.oneCell']; done) | simp [Value.oneCell', Value.oneCell']) rfl rfl rfl rfl rfl ?_ | refine wl_storeAll 3 [_, _, _, _, _, _] rfl el40 rfl rfl rfl (by first | (simp [Value.oneCell']; done) | (simp [Value.oneCell']; done) | simp [Value.oneCell', Value.oneCell']) rfl rfl rfl rfl rfl ?_ | refine wl_storeAll 4 [_, _, _, _, _, _] rfl el40 rfl rfl rfl (by first | (simp [Value.oneCell']; done) | (simp [Value.oneCell']; done) | simp [Value.oneCell', Value.oneCell']) rfl rfl rfl rfl rfl ?_
  refine wl_nil ?_
  refine nx_then ?_
  refine ws_ret ?_
  refine nx_retC rfl rfl Try.underlying40 rfl el40 rfl (Seg.blk 0 rfl) rfl
theorem open_ok (a : Int) (h : Hp) (ms : List Hp) : FnV Try.prog 23 #[.int .i64 a] h ms (.agg (cBr ⟨1, a, 0, true, 0, 0⟩).toArray) := by
  refine FnV.weaken (FnT.toV ?_) (Hp.emp_le h)
  refine fn_enter Try.func23 Try.ntmps23 rfl rfl (fun w0 hw0 => ?_)
  simp only [argS]
  refine ws_seq ?_
  refine ws_region ?_
  refine wl_alloc [.int .i64 0, .int .i64 0, .int .i64 0, .bool false, .int .i64 0, .int .i64 0] rfl el40 rfl rfl rfl rfl (fun g2 => ?_)
  refine wl_nil ?_
  refine nx_then ?_
  refine ws_seq ?_
  refine ws_region ?_
  refine wl_x (ox_move rfl rfl) rfl rfl rfl ?_
  refine wl_x (ox_buildS st40 [.int .i64 0, .int .i64 0, .int .i64 0, .bool false, .int .i64 0, .int .i64 0] [(0, _), (1, _), (3, _)] [_, _, _, _, _, _] rfl el40 rfl rfl (by repeat (first | exact trivial | refine ⟨⟨rfl, rfl, rfl⟩, ?_⟩)) rfl) rfl rfl rfl ?_
  first | refine wl_storeAll 0 [_, _, _, _, _, _] rfl el40 rfl rfl rfl (by first | (simp [Value.oneCell']; done) | (simp [Value.oneCell']; done) | simp [Value.oneCell', Value.oneCell']) rfl rfl rfl rfl rfl ?_ | refine wl_storeAll 1 [_, _, _, _, _, _] rfl el40 rfl rfl rfl (by first | (simp [Value.oneCell']; done) | (simp [Value.oneCell']; done) | simp [Value.oneCell', Value.oneCell']) rfl rfl rfl rfl rfl ?_ | refine wl_storeAll 2 [_, _, _, _, _, _] rfl el40 rfl rfl rfl (by first | (simp [Value.oneCell']; done) | (simp [Value.oneCell']; done) | simp [Value.oneCell', Value.oneCell']) rfl rfl rfl rfl rfl ?_ | refine wl_storeAll 3 [_, _, _, _, _, _] rfl el40 rfl rfl rfl (by first | (simp [Value.oneCell']; done) | (simp [Value.oneCell']; done) | simp [Value.oneCell', Value.oneCell']) rfl rfl rfl rfl rfl ?_ | refine wl_storeAll 4 [_, _, _, _, _, _] rfl el40 rfl rfl rfl (by first | (simp [Value.oneCell']; done) | (simp [Value.oneCell']; done) | simp [Value.oneCell', Value.oneCell']) rfl rfl rfl rfl rfl ?_
  refine wl_nil ?_
  refine nx_then ?_
  refine ws_ret ?_
  refine nx_retC rfl rfl Try.underlying40 rfl el40 rfl (Seg.blk 0 rfl) rfl
theorem counts_ok (b : Br) (h : Hp) (ms : List Hp) : FnV Try.prog 31 #[.agg (cBr b).toArray] h ms (.bool b.cnt) := by
  refine FnV.weaken (FnT.toV ?_) (Hp.emp_le h)
  refine fn_enter Try.func31 Try.ntmps31 rfl rfl (fun w0 hw0 => ?_)
  simp only [argS]
  refine ws_seq ?_
  refine ws_region ?_
  refine wl_box [_, _, _, _, _, _] rfl rfl (by first | rfl | exact Rd.cells ‹_› | exact (RdL.rd ‹_›).cells) rfl rfl rfl (fun g1 => ?_)
  refine wl_x (ox_assign rfl rfl) rfl rfl rfl ?_
  refine wl_nil ?_
  refine nx_then ?_
  refine ws_seq ?_
  refine ws_region ?_
  refine wl_x (ox_fieldF fd40_3 rfl rfl) rfl rfl rfl ?_
  refine wl_x (ox_load rfl Try.underlying4 rfl rfl (by first | exact Cell.blk 0 rfl rfl | exact Cell.blk 1 rfl rfl | exact Cell.blk 2 rfl rfl | exact Cell.blk 3 rfl rfl | exact Cell.blk 4 rfl rfl)) rfl rfl rfl ?_
  refine wl_x (ox_move rfl rfl) rfl rfl rfl ?_
  refine wl_splitb (t := 5) rfl (fun hs => ?_) (fun hs => ?_)
  · skip
    refine wl_skip rfl rfl rfl rfl rfl rfl rfl ?_
    refine wl_skip rfl rfl rfl rfl rfl rfl rfl ?_
    refine wl_skip rfl rfl rfl rfl rfl rfl rfl ?_
    refine wl_skip rfl rfl rfl rfl rfl rfl rfl ?_
    refine wl_skip rfl rfl rfl rfl rfl rfl rfl ?_
    refine wl_x (ox_pick_t rfl rfl rfl) rfl rfl rfl ?_
    refine wl_x (ox_assign rfl rfl) rfl rfl rfl ?_
    refine wl_nil ?_
    refine nx_then ?_
    refine ws_ret ?_
    exact nx_ret1 rfl rfl (by simp [Br.cnt, hs])
  · skip
    refine wl_gx (ox_fieldF fd40_2 rfl rfl) rfl rfl rfl rfl rfl rfl ?_
    refine wl_gx (ox_load rfl Try.underlying3 rfl rfl (by first | exact Cell.blk 0 rfl rfl | exact Cell.blk 1 rfl rfl | exact Cell.blk 2 rfl rfl | exact Cell.blk 3 rfl rfl | exact Cell.blk 4 rfl rfl)) rfl rfl rfl rfl rfl rfl ?_
    refine wl_gx (ox_fieldF fd40_1 rfl rfl) rfl rfl rfl rfl rfl rfl ?_
    refine wl_gx (ox_load rfl Try.underlying3 rfl rfl (by first | exact Cell.blk 0 rfl rfl | exact Cell.blk 1 rfl rfl | exact Cell.blk 2 rfl rfl | exact Cell.blk 3 rfl rfl | exact Cell.blk 4 rfl rfl)) rfl rfl rfl rfl rfl rfl ?_
    refine wl_gx (ox_gtr rfl rfl rfl) rfl rfl rfl rfl rfl rfl ?_
    refine wl_x (ox_pick_f rfl rfl rfl) rfl rfl rfl ?_
    refine wl_x (ox_assign rfl rfl) rfl rfl rfl ?_
    refine wl_nil ?_
    refine nx_then ?_
    refine ws_ret ?_
    exact nx_ret1 rfl rfl (by simp [Br.cnt, hs])
theorem length_ok (b : Br) (hb : BOk b) (h : Hp) (ms : List Hp) : FnV Try.prog 32 #[.agg (cBr b).toArray] h ms (.int .i64 b.len) := by
  refine FnV.weaken (FnT.toV ?_) (Hp.emp_le h)
  obtain ⟨b1, b2, b3, b4⟩ := hb
  refine fn_enter Try.func32 Try.ntmps32 rfl rfl (fun w0 hw0 => ?_)
  simp only [argS]
  refine ws_seq ?_
  refine ws_region ?_
  refine wl_box [_, _, _, _, _, _] rfl rfl (by first | rfl | exact Rd.cells ‹_› | exact (RdL.rd ‹_›).cells) rfl rfl rfl (fun g1 => ?_)
  refine wl_x (ox_assign rfl rfl) rfl rfl rfl ?_
  refine wl_nil ?_
  refine nx_then ?_
  refine ws_seq ?_
  refine ws_region ?_
  refine wl_x (ox_fieldF fd40_2 rfl rfl) rfl rfl rfl ?_
  refine wl_x (ox_load rfl Try.underlying3 rfl rfl (by first | exact Cell.blk 0 rfl rfl | exact Cell.blk 1 rfl rfl | exact Cell.blk 2 rfl rfl | exact Cell.blk 3 rfl rfl | exact Cell.blk 4 rfl rfl)) rfl rfl rfl ?_
  refine wl_x (ox_fieldF fd40_1 rfl rfl) rfl rfl rfl ?_
  refine wl_x (ox_load rfl Try.underlying3 rfl rfl (by first | exact Cell.blk 0 rfl rfl | exact Cell.blk 1 rfl rfl | exact Cell.blk 2 rfl rfl | exact Cell.blk 3 rfl rfl | exact Cell.blk 4 rfl rfl)) rfl rfl rfl ?_
  refine wl_x (ox_sub rfl rfl rfl (by omega)) rfl rfl rfl ?_
  refine wl_x (ox_assign rfl rfl) rfl rfl rfl ?_
  refine wl_nil ?_
  refine nx_then ?_
  refine ws_ret ?_
  exact nx_ret1 rfl rfl (rfl)
theorem apart_ok (x y : Br) (hx : BOk x) (hy : BOk y) (h : Hp) (ms : List Hp) : FnV Try.prog 33 #[.agg (cBr x).toArray, .agg (cBr y).toArray] h ms (.int .i64 (x.apart y)) := by
  refine FnV.weaken (FnT.toV ?_) (Hp.emp_le h)
  obtain ⟨x1, x2, x3, x4⟩ := hx
  obtain ⟨y1, y2, y3, y4⟩ := hy
  have hi1 := iabs_bd (a := x.birth - y.birth) (M := 2000000000000) (by omega)
  have hi2 := iabs_bd (a := x.death - y.death) (M := 2000000000000) (by omega)
  refine fn_enter Try.func33 Try.ntmps33 rfl rfl (fun w0 hw0 => ?_)
  simp only [argS]
  refine ws_seq ?_
  refine ws_region ?_
  refine wl_box [_, _, _, _, _, _] rfl rfl (by first | rfl | exact Rd.cells ‹_› | exact (RdL.rd ‹_›).cells) rfl rfl rfl (fun g2 => ?_)
  refine wl_box [_, _, _, _, _, _] rfl rfl (by first | rfl | exact Rd.cells ‹_› | exact (RdL.rd ‹_›).cells) rfl rfl rfl (fun g3 => ?_)
  refine wl_x (ox_assign rfl rfl) rfl rfl rfl ?_
  refine wl_nil ?_
  refine nx_then ?_
  refine ws_seq ?_
  refine ws_draw 11 fol (by kernel_rfl) rfl ?_
  simp only [List.take_succ_cons, List.take_zero, List.drop_succ_cons, List.drop_zero, List.take_nil, List.drop_nil]
  refine wr_x (ox_fieldF fd40_1 rfl rfl) rfl rfl ?_
  refine wr_x (ox_load rfl Try.underlying3 rfl rfl (by first | exact Cell.blk 0 rfl rfl | exact Cell.blk 1 rfl rfl | exact Cell.blk 2 rfl rfl | exact Cell.blk 3 rfl rfl | exact Cell.blk 4 rfl rfl)) rfl rfl ?_
  refine wr_x (ox_fieldF fd40_1 rfl rfl) rfl rfl ?_
  refine wr_x (ox_load rfl Try.underlying3 rfl rfl (by first | exact Cell.blk 0 rfl rfl | exact Cell.blk 1 rfl rfl | exact Cell.blk 2 rfl rfl | exact Cell.blk 3 rfl rfl | exact Cell.blk 4 rfl rfl)) rfl rfl ?_
  refine wr_x (ox_sub rfl rfl rfl (by omega)) rfl rfl ?_
  refine wr_x (ox_call rfl Try.call29 rfl (abs_ok _ (by omega) _ _)) rfl rfl ?_
  refine wr_x (ox_fieldF fd40_2 rfl rfl) rfl rfl ?_
  refine wr_x (ox_load rfl Try.underlying3 rfl rfl (by first | exact Cell.blk 0 rfl rfl | exact Cell.blk 1 rfl rfl | exact Cell.blk 2 rfl rfl | exact Cell.blk 3 rfl rfl | exact Cell.blk 4 rfl rfl)) rfl rfl ?_
  refine wr_x (ox_fieldF fd40_2 rfl rfl) rfl rfl ?_
  refine wr_x (ox_load rfl Try.underlying3 rfl rfl (by first | exact Cell.blk 0 rfl rfl | exact Cell.blk 1 rfl rfl | exact Cell.blk 2 rfl rfl | exact Cell.blk 3 rfl rfl | exact Cell.blk 4 rfl rfl)) rfl rfl ?_
  refine wr_x (ox_sub rfl rfl rfl (by omega)) rfl rfl ?_
  refine wr_nil ?_
  refine wl_x (ox_call rfl Try.call29 rfl (abs_ok _ (by omega) _ _)) rfl rfl rfl ?_
  refine wl_x (ox_max rfl rfl rfl) rfl rfl rfl ?_
  refine wl_x (ox_mul rfl rfl rfl (by omega)) rfl rfl rfl ?_
  refine wl_x (ox_assign rfl rfl) rfl rfl rfl ?_
  refine wl_nil ?_
  refine nx_then ?_
  refine ws_ret ?_
  exact nx_ret1 rfl rfl (rfl)
theorem rapart_ok (x y : Br) (hx : BOk x) (hy : BOk y) (h : Hp) (ms : List Hp) : FnV Try.prog 41 #[.agg (cBr x).toArray, .agg (cBr y).toArray] h ms (.int .i64 (x.apart y)) := by
  refine FnV.weaken (FnT.toV ?_) (Hp.emp_le h)
  obtain ⟨x1, x2, x3, x4⟩ := hx
  obtain ⟨y1, y2, y3, y4⟩ := hy
  have hi1 := iabs_bd (a := x.birth - y.birth) (M := 2000000000000) (by omega)
  have hi2 := iabs_bd (a := x.death - y.death) (M := 2000000000000) (by omega)
  refine fn_enter Try.func41 Try.ntmps41 rfl rfl (fun w0 hw0 => ?_)
  simp only [argS]
  refine ws_seq ?_
  refine ws_region ?_
  refine wl_box [_, _, _, _, _, _] rfl rfl (by first | rfl | exact Rd.cells ‹_› | exact (RdL.rd ‹_›).cells) rfl rfl rfl (fun g2 => ?_)
  refine wl_box [_, _, _, _, _, _] rfl rfl (by first | rfl | exact Rd.cells ‹_› | exact (RdL.rd ‹_›).cells) rfl rfl rfl (fun g3 => ?_)
  refine wl_x (ox_assign rfl rfl) rfl rfl rfl ?_
  refine wl_nil ?_
  refine nx_then ?_
  refine ws_seq ?_
  refine ws_draw 11 fol (by kernel_rfl) rfl ?_
  simp only [List.take_succ_cons, List.take_zero, List.drop_succ_cons, List.drop_zero, List.take_nil, List.drop_nil]
  refine wr_x (ox_fieldF fd40_1 rfl rfl) rfl rfl ?_
  refine wr_x (ox_load rfl Try.underlying3 rfl rfl (by first | exact Cell.blk 0 rfl rfl | exact Cell.blk 1 rfl rfl | exact Cell.blk 2 rfl rfl | exact Cell.blk 3 rfl rfl | exact Cell.blk 4 rfl rfl)) rfl rfl ?_
  refine wr_x (ox_fieldF fd40_1 rfl rfl) rfl rfl ?_
  refine wr_x (ox_load rfl Try.underlying3 rfl rfl (by first | exact Cell.blk 0 rfl rfl | exact Cell.blk 1 rfl rfl | exact Cell.blk 2 rfl rfl | exact Cell.blk 3 rfl rfl | exact Cell.blk 4 rfl rfl)) rfl rfl ?_
  refine wr_x (ox_sub rfl rfl rfl (by omega)) rfl rfl ?_
  refine wr_x (ox_call rfl Try.call40 rfl (rabs_ok _ (by omega) _ _)) rfl rfl ?_
  refine wr_x (ox_fieldF fd40_2 rfl rfl) rfl rfl ?_
  refine wr_x (ox_load rfl Try.underlying3 rfl rfl (by first | exact Cell.blk 0 rfl rfl | exact Cell.blk 1 rfl rfl | exact Cell.blk 2 rfl rfl | exact Cell.blk 3 rfl rfl | exact Cell.blk 4 rfl rfl)) rfl rfl ?_
  refine wr_x (ox_fieldF fd40_2 rfl rfl) rfl rfl ?_
  refine wr_x (ox_load rfl Try.underlying3 rfl rfl (by first | exact Cell.blk 0 rfl rfl | exact Cell.blk 1 rfl rfl | exact Cell.blk 2 rfl rfl | exact Cell.blk 3 rfl rfl | exact Cell.blk 4 rfl rfl)) rfl rfl ?_
  refine wr_x (ox_sub rfl rfl rfl (by omega)) rfl rfl ?_
  refine wr_nil ?_
  refine wl_x (ox_call rfl Try.call40 rfl (rabs_ok _ (by omega) _ _)) rfl rfl rfl ?_
  refine wl_x (ox_max rfl rfl rfl) rfl rfl rfl ?_
  refine wl_x (ox_mul rfl rfl rfl (by omega)) rfl rfl rfl ?_
  refine wl_x (ox_assign rfl rfl) rfl rfl rfl ?_
  refine wl_nil ?_
  refine nx_then ?_
  refine ws_ret ?_
  exact nx_ret1 rfl rfl (rfl)

/-! filtered, at bars -/
theorem filtered_ok (l : List Br) (vl : Value) (cf : FuncId) (cs : List Value) (p : Br → Bool) (h : Hp) (hR : RdL cBr 6 h [] vl l) (hl : l.length ≤ 1000000000)
    (hc : ∀ xs w, (callFunc cf xs).run Try.prog w = .ok (.enter cf xs) w)
    (hp : ∀ b ∈ l, ∀ ms, FnV Try.prog cf ([] ++ [Value.agg (cBr b).toArray] ++ cs).toArray h ms (.bool (p b))) :
    FnT Try.prog 26 #[vl, .func (.func cf) #[] cs.toArray] h [] (fun r h' ms' => ms' = [] ∧ RdL cBr 6 h' [] r (l.filter p)) := by
  refine fn_enter Try.func26 Try.ntmps26 rfl rfl (fun w0 hw0 => ?_)
  simp only [argS]
  refine ws_seq ?_
  refine ws_region ?_
  refine wl_x (ox_assign rfl rfl) rfl rfl rfl ?_
  refine wl_nil ?_
  refine nx_then ?_
  refine ws_seq ?_
  refine ws_region ?_
  refine wl_x (ox_assign rfl rfl) rfl rfl rfl ?_
  refine wl_nil ?_
  refine nx_then ?_
  refine ws_seq ?_
  refine ws_seq ?_
  refine ws_region ?_
  refine wl_x (ox_move rfl rfl) rfl rfl rfl ?_
  first | refine wl_x (ox_len (ty := 25) rfl Try.underlying25 rfl) rfl rfl rfl ?_ | refine wl_x (ox_lenR hR.rd.any rfl Try.underlying25 rfl) rfl rfl rfl ?_
  refine wl_x (ox_move rfl rfl) rfl rfl rfl ?_
  refine wl_nil ?_
  refine nx_then ?_
  refine ws_block ?_
  refine ws_emp ?_
  refine ws_loop (fun n s h' ms' => ∃ (k : Nat) (v : Value) (m : Hp), n = l.length - k ∧ s = [(1, .func (.func cf) #[] cs.toArray), (8, vl), (9, .int .i64 l.length), (10, .int .i64 k), (5, v)] ∧ h' = h ∧ ms' = [m] ∧ k ≤ l.length ∧ OwnL cBr 6 40 m v ((l.take k).filter p))
    (l.length - 0) _ ⟨0, _, _, rfl, rfl, rfl, rfl, by omega, OwnL.nil cBr_len⟩ (by repeat (first | exact trivial | refine ⟨rfl, ?_⟩)) ?_
  rintro n s h' ms' ⟨k, v, m, rfl, rfl, rfl, rfl, hk, hO⟩
  have hO2 := hO.own.1
  refine ws_seq ?_
  refine ws_region ?_
  refine wl_x (ox_lss rfl rfl rfl) rfl rfl rfl ?_
  refine wl_nil ?_
  refine nx_then ?_
  refine ws_seq ?_
  refine ws_if rfl (fun hlt => ?_) (fun hlt => ?_)
  · skip
    have hlt' : k < l.length := by omega
    have hmem : l[k] ∈ l := List.getElem_mem hlt'
    have hts := take_succ_filter l p k hlt'
    refine ws_skip ?_
    refine nx_then ?_
    refine ws_seq ?_
    refine ws_block ?_
    refine ws_seq ?_
    refine ws_region ?_
    first | refine wl_x (ox_index _ rfl Try.underlying25 el40 rfl rfl rfl (by omega)) rfl rfl rfl ?_ | refine wl_x (ox_indexR _ hR.rd.any rfl Try.underlying25 el40 rfl rfl rfl (by omega)) rfl rfl rfl ?_
    refine wl_x (ox_loadG rfl Try.underlying40 rfl el40 rfl rfl (by first | exact hR.any.seg hlt')) rfl rfl rfl ?_
    refine wl_alloc [.int .i64 0, .int .i64 0, .int .i64 0, .bool false, .int .i64 0, .int .i64 0] rfl el40 rfl rfl rfl rfl (fun g7 => ?_)
    first | refine wl_storeAll 0 _ rfl el40 rfl rfl rfl (by exact cBr_one _) rfl (by first | rfl | simp) (by first | rfl | simp) rfl rfl ?_ | refine wl_storeAll 1 _ rfl el40 rfl rfl rfl (by exact cBr_one _) rfl (by first | rfl | simp) (by first | rfl | simp) rfl rfl ?_ | refine wl_storeAll 2 _ rfl el40 rfl rfl rfl (by exact cBr_one _) rfl (by first | rfl | simp) (by first | rfl | simp) rfl rfl ?_ | refine wl_storeAll 3 _ rfl el40 rfl rfl rfl (by exact cBr_one _) rfl (by first | rfl | simp) (by first | rfl | simp) rfl rfl ?_ | refine wl_storeAll 4 _ rfl el40 rfl rfl rfl (by exact cBr_one _) rfl (by first | rfl | simp) (by first | rfl | simp) rfl rfl ?_
    refine wl_nil ?_
    refine nx_then ?_
    refine ws_seq ?_
    refine ws_region ?_
    refine wl_x (ox_move rfl rfl) rfl rfl rfl ?_
    refine wl_x (ox_loadG rfl Try.underlying40 rfl el40 rfl rfl (by first | exact Seg.blk 0 rfl | exact Seg.blk 1 rfl | exact Seg.blk 2 rfl | exact Seg.blk 3 rfl | exact Seg.blk 4 rfl | exact hR.any.seg hlt')) rfl rfl rfl ?_
    refine wl_x (ox_callv rfl rfl hc rfl (hp _ hmem _)) rfl rfl rfl ?_
    refine wl_nil ?_
    refine nx_then ?_
    refine ws_cond rfl (fun hpk => ?_) (fun hpk => ?_)
    · skip
      refine ws_region ?_
      refine wl_x (ox_move rfl rfl) rfl rfl rfl ?_
      refine wl_x (ox_loadG rfl Try.underlying40 rfl el40 rfl rfl (by first | exact Seg.blk 0 rfl | exact Seg.blk 1 rfl | exact Seg.blk 2 rfl | exact Seg.blk 3 rfl | exact Seg.blk 4 rfl | exact Seg.blk 0 rfl | exact hR.any.seg hlt')) rfl rfl rfl ?_
      refine wl_buildSlice1 _ rfl Try.underlying25 el40 rfl (by first | rfl | exact (hR.rd.any).cells | exact Rd.cells ‹_› | exact (RdL.rd ‹_›).cells) (by first | rfl | simp) rfl (by omega) rfl rfl rfl (fun g19 => ?_)
      have hfl : ((l.take k).filter p).length ≤ k := Nat.le_trans (List.length_filter_le _ _) (by rw [List.length_take]; omega)
      refine wl_appendL 2 hO (RdL.one cBr_len (List.Mem.head _) rfl) rfl Try.underlying25 el40 rfl (by omega) rfl rfl rfl cBr_one (by simp; omega) (by simp; omega) rfl rfl rfl (fun v' m' hO' => ?_)
      refine wl_x (ox_assign rfl rfl) rfl rfl rfl ?_
      refine wl_nil ?_
      refine nx_block ?_
      refine nx_then ?_
      refine ws_region ?_
      refine wl_x (ox_add rfl rfl rfl (by omega)) rfl rfl rfl ?_
      refine wl_x (ox_move rfl rfl) rfl rfl rfl ?_
      refine wl_nil ?_
      refine nx_drop (nx_drop ?_)
      refine nx_round (l.length - (k + 1)) _ (by omega) ⟨k + 1, v', m', rfl, rfl, rfl, rfl, by omega, by rw [hts, if_pos hpk]; exact hO'⟩ (by repeat (first | exact trivial | refine ⟨rfl, ?_⟩))
    · skip
      refine ws_skip ?_
      refine nx_block ?_
      refine nx_then ?_
      refine ws_region ?_
      refine wl_x (ox_add rfl rfl rfl (by omega)) rfl rfl rfl ?_
      refine wl_x (ox_move rfl rfl) rfl rfl rfl ?_
      refine wl_nil ?_
      refine nx_drop ?_
      refine nx_round (l.length - (k + 1)) _ (by omega) ⟨k + 1, v, m, rfl, rfl, rfl, rfl, by omega, by rw [hts, if_neg (by simp [hpk]), List.append_nil]; exact hO⟩ (by repeat (first | exact trivial | refine ⟨rfl, ?_⟩))
  · skip
    refine ws_exit ?_
    refine nx_then_exit ?_
    refine nx_then_exit ?_
    refine nx_block_exit ?_
    refine nx_then ?_
    refine ws_seq ?_
    refine ws_region ?_
    refine wl_x (ox_move rfl rfl) rfl rfl rfl ?_
    refine wl_x (ox_assign rfl rfl) rfl rfl rfl ?_
    refine wl_nil ?_
    refine nx_then ?_
    refine ws_ret ?_
    have hkl : l.take k = l := List.take_of_length_le (by omega)
    rw [hkl] at hO
    refine nx_freezeL hO (fun h' hle hR' => ?_)
    exact nx_ret1 rfl rfl (⟨rfl, hR'⟩)
end Go.Proofs.Ythdkhnjnhhofgaa

/- Walks: the diagram's closures, lists of births. -/
set_option linter.unusedSimpArgs false
set_option linter.unusedVariables false
set_option maxRecDepth 100000
namespace Go.Proofs.Ythdkhnjnhhofgaa
open Go.Eng Go.RowKit

theorem filteredI_ok (l : List Int) (vl : Value) (cf : FuncId) (cs : List Value) (p : Int → Bool) (h : Hp) (hR : RdL cI 1 h [] vl l) (hl : l.length ≤ 1000000000)
    (hc : ∀ xs w, (callFunc cf xs).run Try.prog w = .ok (.enter cf xs) w)
    (hp : ∀ b ∈ l, ∀ ms, FnV Try.prog cf ([] ++ [Value.int .i64 b] ++ cs).toArray h ms (.bool (p b))) :
    FnT Try.prog 35 #[vl, .func (.func cf) #[] cs.toArray] h [] (fun r h' ms' => h = h' ∧ ∃ m, ms' = [m] ∧ OwnL cI 1 3 m r (l.filter p)) := by
  refine fn_enter Try.func35 Try.ntmps35 rfl rfl (fun w0 hw0 => ?_)
  simp only [argS]
  refine ws_seq ?_
  refine ws_region ?_
  refine wl_x (ox_assign rfl rfl) rfl rfl rfl ?_
  refine wl_nil ?_
  refine nx_then ?_
  refine ws_seq ?_
  refine ws_region ?_
  refine wl_x (ox_assign rfl rfl) rfl rfl rfl ?_
  refine wl_nil ?_
  refine nx_then ?_
  refine ws_seq ?_
  refine ws_seq ?_
  refine ws_region ?_
  refine wl_x (ox_move rfl rfl) rfl rfl rfl ?_
  first | refine wl_x (ox_len (ty := 23) rfl Try.underlying23 rfl) rfl rfl rfl ?_ | refine wl_x (ox_lenR hR.rd.any rfl Try.underlying23 rfl) rfl rfl rfl ?_
  refine wl_x (ox_move rfl rfl) rfl rfl rfl ?_
  refine wl_nil ?_
  refine nx_then ?_
  refine ws_block ?_
  refine ws_emp ?_
  refine ws_loop (fun n s h' ms' => ∃ (k : Nat) (v : Value) (m : Hp), n = l.length - k ∧ s = [(1, .func (.func cf) #[] cs.toArray), (8, vl), (9, .int .i64 l.length), (10, .int .i64 k), (5, v)] ∧ h = h' ∧ ms' = [m] ∧ k ≤ l.length ∧ OwnL cI 1 3 m v ((l.take k).filter p))
    (l.length - 0) _ ⟨0, _, _, rfl, rfl, rfl, rfl, by omega, OwnL.nil cI_len⟩ (by repeat (first | exact trivial | refine ⟨rfl, ?_⟩)) ?_
  rintro n s h' ms' ⟨k, v, m, rfl, rfl, rfl, rfl, hk, hO⟩
  have hO2 := hO.own.1
  refine ws_seq ?_
  refine ws_region ?_
  refine wl_x (ox_lss rfl rfl rfl) rfl rfl rfl ?_
  refine wl_nil ?_
  refine nx_then ?_
  refine ws_seq ?_
  refine ws_if rfl (fun hlt => ?_) (fun hlt => ?_)
  · skip
    have hlt' : k < l.length := by omega
    have hmem : l[k] ∈ l := List.getElem_mem hlt'
    have hts := take_succ_filter l p k hlt'
    refine ws_skip ?_
    refine nx_then ?_
    refine ws_seq ?_
    refine ws_block ?_
    refine ws_seq ?_
    refine ws_region ?_
    first | refine wl_x (ox_index _ rfl Try.underlying23 el3 rfl rfl rfl (by omega)) rfl rfl rfl ?_ | refine wl_x (ox_indexR _ hR.rd.any rfl Try.underlying23 el3 rfl rfl rfl (by omega)) rfl rfl rfl ?_
    refine wl_x (ox_load rfl Try.underlying3 rfl rfl (by first | exact hR.any.cell0 hlt' rfl)) rfl rfl rfl ?_
    refine wl_x (ox_assign rfl rfl) rfl rfl rfl ?_
    refine wl_nil ?_
    refine nx_then ?_
    refine ws_seq ?_
    refine ws_region ?_
    refine wl_x (ox_move rfl rfl) rfl rfl rfl ?_
    refine wl_x (ox_move rfl rfl) rfl rfl rfl ?_
    refine wl_x (ox_callv rfl rfl hc rfl (hp _ hmem _)) rfl rfl rfl ?_
    refine wl_nil ?_
    refine nx_then ?_
    refine ws_cond rfl (fun hpk => ?_) (fun hpk => ?_)
    · skip
      refine ws_region ?_
      refine wl_x (ox_move rfl rfl) rfl rfl rfl ?_
      refine wl_x (ox_move rfl rfl) rfl rfl rfl ?_
      refine wl_buildSlice1 [_] rfl Try.underlying23 el3 rfl (by first | rfl | exact (hR.rd.any).cells | exact Rd.cells ‹_› | exact (RdL.rd ‹_›).cells) rfl rfl (by omega) rfl rfl rfl (fun g19 => ?_)
      have hfl : ((l.take k).filter p).length ≤ k := Nat.le_trans (List.length_filter_le _ _) (by rw [List.length_take]; omega)
      refine wl_appendL 1 hO (RdL.one cI_len (List.Mem.head _) rfl) rfl Try.underlying23 el3 rfl (by omega) rfl rfl rfl cI_one (by simp; omega) (by simp; omega) rfl rfl rfl (fun v' m' hO' => ?_)
      refine wl_x (ox_assign rfl rfl) rfl rfl rfl ?_
      refine wl_nil ?_
      refine nx_block ?_
      refine nx_then ?_
      refine ws_region ?_
      refine wl_x (ox_add rfl rfl rfl (by omega)) rfl rfl rfl ?_
      refine wl_x (ox_move rfl rfl) rfl rfl rfl ?_
      refine wl_nil ?_
      refine nx_drop ?_
      refine nx_round (l.length - (k + 1)) _ (by omega) ⟨k + 1, v', m', rfl, rfl, rfl, rfl, by omega, by rw [hts, if_pos hpk]; exact hO'⟩ (by repeat (first | exact trivial | refine ⟨rfl, ?_⟩))
    · skip
      refine ws_skip ?_
      refine nx_block ?_
      refine nx_then ?_
      refine ws_region ?_
      refine wl_x (ox_add rfl rfl rfl (by omega)) rfl rfl rfl ?_
      refine wl_x (ox_move rfl rfl) rfl rfl rfl ?_
      refine wl_nil ?_
      refine nx_round (l.length - (k + 1)) _ (by omega) ⟨k + 1, v, m, rfl, rfl, rfl, rfl, by omega, by rw [hts, if_neg (by simp [hpk]), List.append_nil]; exact hO⟩ (by repeat (first | exact trivial | refine ⟨rfl, ?_⟩))
  · skip
    refine ws_exit ?_
    refine nx_then_exit ?_
    refine nx_then_exit ?_
    refine nx_block_exit ?_
    refine nx_then ?_
    refine ws_seq ?_
    refine ws_region ?_
    refine wl_x (ox_move rfl rfl) rfl rfl rfl ?_
    refine wl_x (ox_assign rfl rfl) rfl rfl rfl ?_
    refine wl_nil ?_
    refine nx_then ?_
    refine ws_ret ?_
    have hkl : l.take k = l := List.take_of_length_le (by omega)
    rw [hkl] at hO
    exact nx_ret1 rfl rfl (⟨rfl, m, rfl, hO⟩)

/-- Open, of a dimension. -/
def Br.openIn (dim : Int) (b : Br) : Bool := decide (b.dim = dim) && b.opn
def Br.finIn (dim : Int) (b : Br) : Bool := decide (b.dim = dim) && !b.opn && b.cnt
theorem openIn_ok (b : Br) (gd : Nat) (dim : Int) (h : Hp) (hD : ∀ ms, Cell h ms ⟨gd, 0, none⟩ (.int .i64 dim)) (ms : List Hp) : FnV Try.prog 27 ([] ++ [Value.agg (cBr b).toArray] ++ [Value.pointer (some ⟨gd, 0, none⟩)]).toArray h ms (.bool (b.openIn dim)) := by
  refine fun w hw => (?_ : FnV _ _ _ h [] _) w (hw.weaken (Hp.le_refl _) (List.nil_sublist _))
  refine FnT.toV ?_
  show FnT _ _ #[.agg (cBr b).toArray, .pointer (some ⟨gd, 0, none⟩)] _ _ _
  refine fn_enter Try.func27 Try.ntmps27 rfl rfl (fun w0 hw0 => ?_)
  simp only [argS]
  refine ws_seq ?_
  refine ws_region ?_
  refine wl_box [_, _, _, _, _, _] rfl rfl (by first | rfl | exact (hR.rd.any).cells | exact Rd.cells ‹_› | exact (RdL.rd ‹_›).cells) rfl rfl rfl (fun g2 => ?_)
  refine wl_x (ox_assign rfl rfl) rfl rfl rfl ?_
  refine wl_nil ?_
  refine nx_then ?_
  refine ws_seq ?_
  refine ws_region ?_
  refine wl_x (ox_fieldF fd40_0 rfl rfl) rfl rfl rfl ?_
  refine wl_x (ox_load rfl Try.underlying3 rfl rfl (by first | exact Cell.blk 0 rfl rfl | exact Cell.blk 1 rfl rfl | exact Cell.blk 2 rfl rfl | exact Cell.blk 3 rfl rfl | exact Cell.blk 4 rfl rfl | exact hD _)) rfl rfl rfl ?_
  refine wl_x (ox_load rfl Try.underlying3 rfl rfl (by first | exact hD _)) rfl rfl rfl ?_
  refine wl_x (ox_eqi rfl rfl rfl) rfl rfl rfl ?_
  refine wl_x (ox_move rfl rfl) rfl rfl rfl ?_
  refine wl_split (t := 8) rfl (fun hs => ?_) (fun hs => ?_)
  · skip
    refine wl_gx (ox_fieldF fd40_3 rfl rfl) rfl rfl rfl rfl rfl rfl ?_
    refine wl_gx (ox_load rfl Try.underlying4 rfl rfl (by first | exact Cell.blk 0 rfl rfl | exact Cell.blk 1 rfl rfl | exact Cell.blk 2 rfl rfl | exact Cell.blk 3 rfl rfl | exact Cell.blk 4 rfl rfl | exact hD _)) rfl rfl rfl rfl rfl rfl ?_
    refine wl_x (ox_pick_t rfl rfl rfl) rfl rfl rfl ?_
    refine wl_x (ox_assign rfl rfl) rfl rfl rfl ?_
    refine wl_nil ?_
    refine nx_then ?_
    refine ws_ret ?_
    exact nx_ret1 rfl rfl (by simp [Br.openIn, hs])
  · skip
    refine wl_skip rfl rfl rfl rfl rfl rfl rfl ?_
    refine wl_skip rfl rfl rfl rfl rfl rfl rfl ?_
    refine wl_x (ox_pick_f rfl rfl rfl) rfl rfl rfl ?_
    refine wl_x (ox_assign rfl rfl) rfl rfl rfl ?_
    refine wl_nil ?_
    refine nx_then ?_
    refine ws_ret ?_
    exact nx_ret1 rfl rfl (by simp [Br.openIn, hs])
theorem finIn_ok (b : Br) (gd : Nat) (dim : Int) (h : Hp) (hD : ∀ ms, Cell h ms ⟨gd, 0, none⟩ (.int .i64 dim)) (ms : List Hp) : FnV Try.prog 30 ([] ++ [Value.agg (cBr b).toArray] ++ [Value.pointer (some ⟨gd, 0, none⟩)]).toArray h ms (.bool (b.finIn dim)) := by
  refine fun w hw => (?_ : FnV _ _ _ h [] _) w (hw.weaken (Hp.le_refl _) (List.nil_sublist _))
  refine FnT.toV ?_
  show FnT _ _ #[.agg (cBr b).toArray, .pointer (some ⟨gd, 0, none⟩)] _ _ _
  refine fn_enter Try.func30 Try.ntmps30 rfl rfl (fun w0 hw0 => ?_)
  simp only [argS]
  refine ws_seq ?_
  refine ws_region ?_
  refine wl_box [_, _, _, _, _, _] rfl rfl (by first | rfl | exact (hR.rd.any).cells | exact Rd.cells ‹_› | exact (RdL.rd ‹_›).cells) rfl rfl rfl (fun g2 => ?_)
  refine wl_x (ox_assign rfl rfl) rfl rfl rfl ?_
  refine wl_nil ?_
  refine nx_then ?_
  refine ws_seq ?_
  refine ws_region ?_
  refine wl_x (ox_fieldF fd40_0 rfl rfl) rfl rfl rfl ?_
  refine wl_x (ox_load rfl Try.underlying3 rfl rfl (by first | exact Cell.blk 0 rfl rfl | exact Cell.blk 1 rfl rfl | exact Cell.blk 2 rfl rfl | exact Cell.blk 3 rfl rfl | exact Cell.blk 4 rfl rfl | exact hD _)) rfl rfl rfl ?_
  refine wl_x (ox_load rfl Try.underlying3 rfl rfl (by first | exact hD _)) rfl rfl rfl ?_
  refine wl_x (ox_eqi rfl rfl rfl) rfl rfl rfl ?_
  refine wl_x (ox_move rfl rfl) rfl rfl rfl ?_
  refine wl_split (t := 8) rfl (fun hs => ?_) (fun hs => ?_)
  · skip
    refine wl_gx (ox_fieldF fd40_3 rfl rfl) rfl rfl rfl rfl rfl rfl ?_
    refine wl_gx (ox_load rfl Try.underlying4 rfl rfl (by first | exact Cell.blk 0 rfl rfl | exact Cell.blk 1 rfl rfl | exact Cell.blk 2 rfl rfl | exact Cell.blk 3 rfl rfl | exact Cell.blk 4 rfl rfl | exact hD _)) rfl rfl rfl rfl rfl rfl ?_
    refine wl_gx (ox_not rfl rfl) rfl rfl rfl rfl rfl rfl ?_
    refine wl_x (ox_pick_t rfl rfl rfl) rfl rfl rfl ?_
    refine wl_x (ox_move rfl rfl) rfl rfl rfl ?_
    refine wl_splitb (t := 13) rfl (fun hs2 => ?_) (fun hs2 => ?_)
    · skip
      refine wl_gx (ox_loadG rfl Try.underlying40 rfl el40 rfl rfl (by first | exact Seg.blk 0 rfl | exact Seg.blk 1 rfl | exact Seg.blk 2 rfl | exact Seg.blk 3 rfl | exact Seg.blk 4 rfl | exact RdL.seg ‹_› (by omega))) rfl rfl rfl rfl rfl rfl ?_
      refine wl_gx (ox_call rfl Try.call31 rfl (counts_ok _ _ _)) rfl rfl rfl rfl rfl rfl ?_
      refine wl_x (ox_pick_t rfl rfl rfl) rfl rfl rfl ?_
      refine wl_x (ox_assign rfl rfl) rfl rfl rfl ?_
      refine wl_nil ?_
      refine nx_then ?_
      refine ws_ret ?_
      exact nx_ret1 rfl rfl (by simp [Br.finIn, hs] at hs2 ⊢; simp [hs2])
    · skip
      refine wl_skip rfl rfl rfl rfl rfl rfl rfl ?_
      refine wl_skip rfl rfl rfl rfl rfl rfl rfl ?_
      refine wl_x (ox_pick_f rfl rfl rfl) rfl rfl rfl ?_
      refine wl_x (ox_assign rfl rfl) rfl rfl rfl ?_
      refine wl_nil ?_
      refine nx_then ?_
      refine ws_ret ?_
      exact nx_ret1 rfl rfl (by simp [Br.finIn, hs] at hs2 ⊢; simp [hs2])
  · skip
    refine wl_skip rfl rfl rfl rfl rfl rfl rfl ?_
    refine wl_skip rfl rfl rfl rfl rfl rfl rfl ?_
    refine wl_skip rfl rfl rfl rfl rfl rfl rfl ?_
    refine wl_x (ox_pick_f rfl rfl rfl) rfl rfl rfl ?_
    refine wl_x (ox_move rfl rfl) rfl rfl rfl ?_
    refine wl_skip rfl rfl rfl rfl rfl rfl rfl ?_
    refine wl_skip rfl rfl rfl rfl rfl rfl rfl ?_
    refine wl_x (ox_pick_f rfl rfl rfl) rfl rfl rfl ?_
    refine wl_x (ox_assign rfl rfl) rfl rfl rfl ?_
    refine wl_nil ?_
    refine nx_then ?_
    refine ws_ret ?_
    exact nx_ret1 rfl rfl (by simp [Br.finIn, hs])
theorem geqL_ok (b : Int) (gd : Nat) (m : Int) (h : Hp) (hD : ∀ ms, Cell h ms ⟨gd, 0, none⟩ (.int .i64 m)) (ms : List Hp) : FnV Try.prog 36 ([] ++ [Value.int .i64 b] ++ [Value.pointer (some ⟨gd, 0, none⟩)]).toArray h ms (.bool (decide (m ≤ b))) := by
  refine fun w hw => (?_ : FnV _ _ _ h [] _) w (hw.weaken (Hp.le_refl _) (List.nil_sublist _))
  refine FnT.toV ?_
  show FnT _ _ #[.int .i64 b, .pointer (some ⟨gd, 0, none⟩)] _ _ _
  refine fn_enter Try.func36 Try.ntmps36 rfl rfl (fun w0 hw0 => ?_)
  simp only [argS]
  refine ws_seq ?_
  refine ws_region ?_
  refine wl_x (ox_assign rfl rfl) rfl rfl rfl ?_
  refine wl_nil ?_
  refine nx_then ?_
  refine ws_seq ?_
  refine ws_region ?_
  refine wl_x (ox_move rfl rfl) rfl rfl rfl ?_
  refine wl_x (ox_load rfl Try.underlying3 rfl rfl (by first | exact hD _)) rfl rfl rfl ?_
  refine wl_x (ox_geq rfl rfl rfl) rfl rfl rfl ?_
  refine wl_x (ox_assign rfl rfl) rfl rfl rfl ?_
  refine wl_nil ?_
  refine nx_then ?_
  refine ws_ret ?_
  exact nx_ret1 rfl rfl (rfl)
end Go.Proofs.Ythdkhnjnhhofgaa

/- Walks: births. -/
set_option linter.unusedSimpArgs false
set_option linter.unusedVariables false
set_option maxRecDepth 100000
namespace Go.Proofs.Ythdkhnjnhhofgaa
open Go.Eng Go.RowKit

theorem take_succ_map {α β : Type} (f : α → β) (l : List α) (k : Nat) (hk : k < l.length) : (l.take (k + 1)).map f = (l.take k).map f ++ [f l[k]] := by
  rw [List.take_succ_eq_append_getElem hk, List.map_append]; rfl

/-- The births of open bars, in order. -/
def birthsOf (dim : Int) (l : List Br) : List Int := isort ((l.filter (Br.openIn dim)).map Br.birth)
theorem births_ok (l : List Br) (vl : Value) (gd : Nat) (dim : Int) (h : Hp) (hR : RdL cBr 6 h [] vl l) (hl : l.length ≤ 1000000000) (hD : Cell h [] ⟨gd, 0, none⟩ (.int .i64 dim)) :
    FnT Try.prog 25 #[vl, .pointer (some ⟨gd, 0, none⟩)] h [] (fun r h' ms' => ms' = [] ∧ RdL cI 1 h' [] r (birthsOf dim l)) := by
  refine fn_enter Try.func25 Try.ntmps25 rfl rfl (fun w0 hw0 => ?_)
  simp only [argS]
  refine ws_seq ?_
  refine ws_region ?_
  refine wl_x (ox_assign rfl rfl) rfl rfl rfl ?_
  refine wl_nil ?_
  refine nx_then ?_
  refine ws_seq ?_
  refine ws_region ?_
  refine wl_x (ox_assign rfl rfl) rfl rfl rfl ?_
  refine wl_nil ?_
  refine nx_then ?_
  refine ws_seq ?_
  refine ws_seq ?_
  refine ws_region ?_
  refine wl_x (ox_move rfl rfl) rfl rfl rfl ?_
  refine wl_x (ox_makeFunc rfl rfl rfl) rfl rfl rfl ?_
  refine wl_call rfl Try.call26 rfl (filtered_ok l vl 27 [Value.pointer (some ⟨gd, 0, none⟩)] (Br.openIn dim) h hR hl Try.call27 (fun b _ ms => openIn_ok b gd dim h (fun _ => hD.any) ms)) rfl rfl rfl (fun v9 h9 ms9 hle9 hL => ?_)
  obtain ⟨rfl, hR9⟩ := hL
  simp only [List.nil_append]
  have hlf : (l.filter (Br.openIn dim)).length ≤ l.length := List.length_filter_le _ _
  unfold birthsOf
  generalize hq : l.filter (Br.openIn dim) = q at hR9 hlf ⊢
  first | refine wl_x (ox_len (ty := 25) rfl Try.underlying25 rfl) rfl rfl rfl ?_ | refine wl_x (ox_lenR hR9.rd.any rfl Try.underlying25 rfl) rfl rfl rfl ?_
  refine wl_x (ox_move rfl rfl) rfl rfl rfl ?_
  refine wl_nil ?_
  refine nx_then ?_
  refine ws_block ?_
  refine ws_emp ?_
  refine ws_loop (fun n s h' ms' => ∃ (k : Nat) (v : Value) (m : Hp), n = q.length - k ∧ s = [(9, v9), (10, .int .i64 q.length), (11, .int .i64 k), (4, v)] ∧ h9 = h' ∧ ms' = [m] ∧ k ≤ q.length ∧ OwnL cI 1 3 m v ((q.take k).map Br.birth))
    (q.length - 0) _ ⟨0, _, _, rfl, rfl, rfl, rfl, by omega, OwnL.nil cI_len⟩ (by repeat (first | exact trivial | refine ⟨rfl, ?_⟩)) ?_
  rintro n s h' ms' ⟨k, v, m, rfl, rfl, rfl, rfl, hk, hO⟩
  have hO2 := hO.own.1
  refine ws_seq ?_
  refine ws_region ?_
  refine wl_x (ox_lss rfl rfl rfl) rfl rfl rfl ?_
  refine wl_nil ?_
  refine nx_then ?_
  refine ws_seq ?_
  refine ws_if rfl (fun hlt => ?_) (fun hlt => ?_)
  · skip
    have hlt' : k < q.length := by omega
    have hts := take_succ_map Br.birth q k hlt'
    refine ws_skip ?_
    refine nx_then ?_
    refine ws_seq ?_
    refine ws_block ?_
    refine ws_seq ?_
    refine ws_region ?_
    first | refine wl_x (ox_index _ rfl Try.underlying25 el40 rfl rfl rfl (by omega)) rfl rfl rfl ?_ | refine wl_x (ox_indexR _ hR9.rd.any rfl Try.underlying25 el40 rfl rfl rfl (by omega)) rfl rfl rfl ?_
    refine wl_x (ox_loadG rfl Try.underlying40 rfl el40 rfl rfl (by first | exact hR9.any.seg hlt')) rfl rfl rfl ?_
    refine wl_alloc [.int .i64 0, .int .i64 0, .int .i64 0, .bool false, .int .i64 0, .int .i64 0] rfl el40 rfl rfl rfl rfl (fun g6 => ?_)
    first | refine wl_storeAll 0 _ rfl el40 rfl rfl rfl (by exact cBr_one _) rfl (by first | rfl | simp) (by first | rfl | simp) rfl rfl ?_ | refine wl_storeAll 1 _ rfl el40 rfl rfl rfl (by exact cBr_one _) rfl (by first | rfl | simp) (by first | rfl | simp) rfl rfl ?_ | refine wl_storeAll 2 _ rfl el40 rfl rfl rfl (by exact cBr_one _) rfl (by first | rfl | simp) (by first | rfl | simp) rfl rfl ?_ | refine wl_storeAll 3 _ rfl el40 rfl rfl rfl (by exact cBr_one _) rfl (by first | rfl | simp) (by first | rfl | simp) rfl rfl ?_ | refine wl_storeAll 4 _ rfl el40 rfl rfl rfl (by exact cBr_one _) rfl (by first | rfl | simp) (by first | rfl | simp) rfl rfl ?_
    refine wl_nil ?_
    refine nx_then ?_
    refine ws_region ?_
    refine wl_x (ox_move rfl rfl) rfl rfl rfl ?_
    refine wl_x (ox_fieldF fd40_1 rfl rfl) rfl rfl rfl ?_
    refine wl_x (ox_load rfl Try.underlying3 rfl rfl (by first | exact Cell.blk 0 rfl rfl | exact Cell.blk 1 rfl rfl | exact Cell.blk 2 rfl rfl | exact Cell.blk 3 rfl rfl | exact Cell.blk 4 rfl rfl)) rfl rfl rfl ?_
    refine wl_buildSlice1 _ rfl Try.underlying23 el3 rfl (by first | rfl | exact (hR9.rd.any).cells | exact Rd.cells ‹_› | exact (RdL.rd ‹_›).cells) (by first | rfl | simp) rfl (by omega) rfl rfl rfl (fun g18 => ?_)
    refine wl_appendL 2 hO (RdL.one cI_len (List.Mem.head _) rfl) rfl Try.underlying23 el3 rfl (by omega) rfl rfl rfl cI_one (by simp; omega) (by simp; omega) rfl rfl rfl (fun v' m' hO' => ?_)
    refine wl_x (ox_assign rfl rfl) rfl rfl rfl ?_
    refine wl_nil ?_
    refine nx_block ?_
    refine nx_then ?_
    refine ws_region ?_
    refine wl_x (ox_add rfl rfl rfl (by omega)) rfl rfl rfl ?_
    refine wl_x (ox_move rfl rfl) rfl rfl rfl ?_
    refine wl_nil ?_
    refine nx_drop (nx_drop ?_)
    refine nx_round (q.length - (k + 1)) _ (by omega) ⟨k + 1, v', m', rfl, rfl, rfl, rfl, by omega, by rw [hts]; exact hO'⟩ (by repeat (first | exact trivial | refine ⟨rfl, ?_⟩))
  · skip
    have hkl : q.take k = q := List.take_of_length_le (by omega)
    rw [hkl] at hO
    refine ws_exit ?_
    refine nx_then_exit ?_
    refine nx_then_exit ?_
    refine nx_block_exit ?_
    refine nx_then ?_
    refine ws_seq ?_
    refine ws_region ?_
    refine wl_x (ox_move rfl rfl) rfl rfl rfl ?_
    refine wl_call_ (pre := [m]) rfl Try.call28 rfl (sort_ok (q.map Br.birth) v m hO (by simp; omega) _) rfl rfl rfl rfl (fun _ _ _ _ hL => ?_)
    obtain ⟨rfl, m2, rfl, hO3⟩ := hL
    refine wl_nil ?_
    refine nx_then ?_
    refine ws_seq ?_
    refine ws_region ?_
    refine wl_x (ox_move rfl rfl) rfl rfl rfl ?_
    refine wl_x (ox_assign rfl rfl) rfl rfl rfl ?_
    refine wl_nil ?_
    refine nx_then ?_
    refine ws_ret ?_
    refine nx_freezeL hO3 (fun h' hle hR' => ?_)
    exact nx_ret1 rfl rfl (⟨rfl, hR'⟩)
end Go.Proofs.Ythdkhnjnhhofgaa

/- Walks: a list of one number, repeated. -/
set_option linter.unusedSimpArgs false
set_option linter.unusedVariables false
set_option maxRecDepth 100000
namespace Go.Proofs.Ythdkhnjnhhofgaa
open Go.Eng Go.RowKit

theorem mul_ok (x y : Nat) (hx : x < 18446744073709551616) (hy : y < 18446744073709551616) (h : Hp) (ms : List Hp) {x' y' : Int} (ex : x' = x) (ey : y' = y) :
    FnV Try.prog 64 #[.int .u64 x', .int .u64 y'] h ms (.tuple #[.int .u64 ((x * y / 18446744073709551616 : Nat) : Int), .int .u64 ((x * y % 18446744073709551616 : Nat) : Int)]) := by
  subst ex ey
  exact FnV.ofCalls fun w => Try.bits_Mul x y hx hy w

theorem rep_split (n k j : Nat) (a : Int) (h : k + j ≤ n) :
    ((List.replicate k (Value.int .i64 a) ++ List.replicate (n - k) (Value.int .i64 0)).take k ++ (List.replicate k (Value.int .i64 a)).take j ++ (List.replicate k (Value.int .i64 a) ++ List.replicate (n - k) (Value.int .i64 0)).drop (k + j)) = List.replicate (k + min j k) (Value.int .i64 a) ++ List.replicate (n - (k + j)) (Value.int .i64 0) := by
  rw [List.take_left' (by simp), List.take_replicate, List.drop_append, List.drop_eq_nil_of_le (by simp), List.nil_append, List.drop_replicate, List.length_replicate, List.replicate_append_replicate]
  congr 2; omega

theorem repeat_ok (n : Nat) (hn : n ≤ 1000000000) (vx : Value) (h : Hp) (hR : RdL cI 1 h [] vx [-1]) {n' : Int} (en : n' = n) :
    FnT Try.prog 49 #[vx, .int .i64 n'] h [] (fun r h' ms' => h = h' ∧ ∃ m, ms' = [m] ∧ OwnL cI 1 3 m r (List.replicate n (-1))) := by
  subst en
  have hm1 : 1 * n / 18446744073709551616 = 0 := by omega
  have hm2 : 1 * n % 18446744073709551616 = n := by omega
  refine fn_enter Try.func49 Try.ntmps49 rfl rfl (fun w0 hw0 => ?_)
  simp only [argS]
  refine ws_seq ?_
  refine ws_region ?_
  refine wl_x (ox_assign rfl rfl) rfl rfl rfl ?_
  refine wl_nil ?_
  refine nx_then ?_
  refine ws_seq ?_
  refine ws_seq ?_
  refine ws_region ?_
  refine wl_x (ox_move rfl rfl) rfl rfl rfl ?_
  refine wl_x (ox_lss rfl rfl rfl) rfl rfl rfl ?_
  refine wl_nil ?_
  refine nx_then ?_
  refine ws_if rfl (fun hc => absurd hc (by omega)) (fun hc => ?_)
  refine ws_skip ?_
  refine nx_then ?_
  refine ws_seq ?_
  refine ws_region ?_
  refine wl_x (ox_move rfl rfl) rfl rfl rfl ?_
  first | refine wl_x (ox_len (ty := 23) rfl Try.underlying23 rfl) rfl rfl rfl ?_ | refine wl_x (ox_lenR hR.rd.any rfl Try.underlying23 rfl) rfl rfl rfl ?_
  refine wl_x (ox_conv rfl Try.underlying3 Try.underlying69 rfl (wrap_u64 (by simp))) rfl rfl rfl ?_
  refine wl_x (ox_move rfl rfl) rfl rfl rfl ?_
  refine wl_x (ox_conv rfl Try.underlying3 Try.underlying69 rfl (wrap_u64 (by omega))) rfl rfl rfl ?_
  refine wl_x (ox_call rfl Try.call64 rfl (mul_ok 1 n (by omega) (by omega) _ _ (by simp) rfl)) rfl rfl rfl ?_
  refine wl_x (ox_move rfl rfl) rfl rfl rfl ?_
  rw [hm1, hm2]
  refine wl_x (ox_extract rfl rfl rfl) rfl rfl rfl ?_
  refine wl_x (ox_extract rfl rfl rfl) rfl rfl rfl ?_
  refine wl_x (ox_assign rfl rfl) rfl rfl rfl ?_
  refine wl_x (ox_assign rfl rfl) rfl rfl rfl ?_
  refine wl_nil ?_
  refine nx_then ?_
  refine ws_seq ?_
  refine ws_seq ?_
  refine ws_region ?_
  refine wl_x (ox_move rfl rfl) rfl rfl rfl ?_
  refine wl_x (ox_gtr rfl rfl rfl) rfl rfl rfl ?_
  refine wl_x (ox_move rfl rfl) rfl rfl rfl ?_
  refine wl_split (t := 23) rfl (fun hs => absurd hs (by omega)) (fun hs => ?_)
  refine wl_gx (ox_move rfl rfl) rfl rfl rfl rfl rfl rfl ?_
  refine wl_gx (ox_gtr rfl rfl rfl) rfl rfl rfl rfl rfl rfl ?_
  refine wl_x (ox_pick_f rfl rfl rfl) rfl rfl rfl ?_
  refine wl_nil ?_
  refine nx_then ?_
  refine ws_if rfl (fun hc => absurd hc (by omega)) (fun hc => ?_)
  refine ws_skip ?_
  refine nx_then ?_
  refine ws_seq ?_
  refine ws_region ?_
  refine wl_x (ox_move rfl rfl) rfl rfl rfl ?_
  refine wl_x (ox_conv rfl Try.underlying69 Try.underlying3 rfl (wrap_i64 (by omega))) rfl rfl rfl ?_
  refine wl_make (n := n) rfl Try.underlying23 el3 rfl rfl rfl (by first | rfl | omega) (by first | rfl | omega) (by omega) (by omega) rfl rfl rfl (fun g30 => ?_)
  refine wl_x (ox_assign rfl rfl) rfl rfl rfl ?_
  refine wl_nil ?_
  refine nx_then ?_
  refine ws_seq ?_
  refine ws_region ?_
  refine wl_x (ox_move rfl rfl) rfl rfl rfl ?_
  refine wl_x (ox_move rfl rfl) rfl rfl rfl ?_
  refine wl_copyB (n := min 1 n) 0 rfl Try.underlying23 el3 rfl rfl rfl hR.rd.any (by simp) rfl rfl (by simp; omega) (fun c hc => by simp [cI] at hc; subst hc; rfl) rfl rfl rfl ?_
  have e0 : ((List.replicate n (Value.int .i64 0)).take 0 ++ ([-1].flatMap cI).take (min 1 n) ++ (List.replicate n (Value.int .i64 0)).drop (0 + min 1 n)) = List.replicate (min 1 n) (Value.int .i64 (-1)) ++ List.replicate (n - min 1 n) (Value.int .i64 0) := by
    rcases Nat.eq_zero_or_pos n with h0 | h0
    · subst h0; rfl
    · rw [show min 1 n = 1 by omega]; simp [cI]
  rw [e0]
  refine wl_x (ox_assign rfl rfl) rfl rfl rfl ?_
  refine wl_nil ?_
  refine nx_then ?_
  refine ws_seq ?_
  refine ws_block ?_
  refine ws_loop (fun q s h' ms' => ∃ (k : Nat) (y : Int), q = n - k ∧ s = [(7, .slice (some ⟨g30, 0, none⟩) n n), (8, .int .i64 y)] ∧ h = h' ∧ ms' = [Blk g30 3 (List.replicate k (Value.int .i64 (-1)) ++ List.replicate (n - k) (Value.int .i64 0))] ∧ y = k ∧ k ≤ n ∧ (0 < n → 0 < k))
    _ _ ⟨min 1 n, (min 1 n : Nat), rfl, rfl, rfl, rfl, rfl, by omega, by omega⟩ (by repeat (first | exact trivial | refine ⟨rfl, ?_⟩)) ?_
  rintro q s h' ms' ⟨k, y, rfl, rfl, rfl, rfl, hy, hk, hk0⟩
  refine ws_seq ?_
  refine ws_seq ?_
  refine ws_region ?_
  refine wl_x (ox_move rfl rfl) rfl rfl rfl ?_
  refine wl_x (ox_move rfl rfl) rfl rfl rfl ?_
  first | refine wl_x (ox_len (ty := 23) rfl Try.underlying23 rfl) rfl rfl rfl ?_ | refine wl_x (ox_lenR hR.rd.any rfl Try.underlying23 rfl) rfl rfl rfl ?_
  refine wl_x (ox_lss rfl rfl rfl) rfl rfl rfl ?_
  refine wl_nil ?_
  refine nx_then ?_
  refine ws_if rfl (fun hlt => ?_) (fun hlt => ?_)
  · skip
    refine ws_skip ?_
    refine nx_then ?_
    refine ws_block ?_
    refine ws_drawP 7 [true] fol (by kernel_rfl) (by kernel_rfl) (by kernel_rfl) ?_
    refine pz_x rfl rfl rfl rfl (px_move rfl rfl) ?_
    refine ⟨rfl, ?_⟩
    simp only [zapL, zap, List.cons_append, List.nil_append, List.take_succ_cons, List.take_zero, List.drop_succ_cons, List.drop_zero, List.take_nil, List.drop_nil]
    refine wr_z rfl rfl rfl ?_
    refine wr_x (ox_move rfl rfl) rfl rfl ?_
    refine wr_x (ox_move rfl rfl) rfl rfl ?_
    refine wr_x (ox_slice_l k rfl Try.underlying23 el3 rfl rfl hy (by omega)) rfl rfl ?_
    refine wr_x (ox_move rfl rfl) rfl rfl ?_
    refine wr_x (ox_move rfl rfl) rfl rfl ?_
    refine wr_x (ox_slice_h k rfl Try.underlying23 el3 rfl rfl hy (by omega)) rfl rfl ?_
    refine wr_nil ?_
    have hRd : Rd h [Blk g30 3 (List.replicate k (Value.int .i64 (-1)) ++ List.replicate (n - k) (Value.int .i64 0))] (.slice (some ⟨g30, 0, none⟩) k n) 1 k (List.replicate k (Value.int .i64 (-1))) :=
      ⟨_, n, rfl, by omega, by omega, by simp, fun _ => ⟨_, rfl, fun j v hv => Cell.blk 0 rfl (by rw [List.getElem?_append_left (List.getElem?_eq_some_iff.1 hv).1]; exact hv)⟩⟩
    refine wl_copyB (a := if n = k then ⟨g30, 0, none⟩ else (⟨g30, 0, none⟩ : Addr).add (k * 1)) (n := min k (n - k)) (of := k) 0 rfl Try.underlying23 el3 rfl rfl (by rw [if_neg (by omega)]; simp [Addr.add]; omega) hRd (by omega) rfl rfl (by simp; omega) (fun c hc => by rw [(List.mem_replicate.1 hc).2]; rfl) rfl rfl rfl ?_
    have e1 : ((List.replicate k (Value.int .i64 (-1)) ++ List.replicate (n - k) (Value.int .i64 0)).take k ++ (List.replicate k (Value.int .i64 (-1))).take (min k (n - k)) ++ (List.replicate k (Value.int .i64 (-1)) ++ List.replicate (n - k) (Value.int .i64 0)).drop (k + min k (n - k))) = List.replicate (k + min k (n - k)) (Value.int .i64 (-1)) ++ List.replicate (n - (k + min k (n - k))) (Value.int .i64 0) := by
      rw [rep_split n k _ _ (by omega)]; congr 2; omega
    rw [e1]
    refine wl_x (ox_add rfl rfl rfl (by omega)) rfl rfl rfl ?_
    refine wl_x (ox_assign rfl rfl) rfl rfl rfl ?_
    refine wl_nil ?_
    refine nx_q0 ?_
    refine nx_block ?_
    refine nx_round (n - (k + min k (n - k))) _ (by omega) ⟨k + min k (n - k), y + (min k (n - k) : Nat), rfl, rfl, rfl, rfl, by omega, by omega, by omega⟩ (by repeat (first | exact trivial | refine ⟨rfl, ?_⟩))
  · skip
    obtain rfl : k = n := by omega
    refine ws_exit ?_
    refine nx_then_exit ?_
    refine nx_then_exit ?_
    refine nx_block_exit ?_
    refine nx_then ?_
    refine ws_seq ?_
    refine ws_region ?_
    refine wl_x (ox_move rfl rfl) rfl rfl rfl ?_
    refine wl_x (ox_assign rfl rfl) rfl rfl rfl ?_
    refine wl_nil ?_
    refine nx_then ?_
    refine ws_ret ?_
    exact nx_ret1 rfl rfl (⟨rfl, _, rfl, ⟨⟨by simp [flatMap_cI], .inr ⟨g30, k, [], by simp, by simp [flatMap_cI], by simp [flatMap_cI], by simp, by omega⟩⟩, cI_len⟩⟩)
end Go.Proofs.Ythdkhnjnhhofgaa

/- Walks: a possible cost. -/
set_option linter.unusedSimpArgs false
set_option linter.unusedVariables false
set_option maxRecDepth 100000
namespace Go.Proofs.Ythdkhnjnhhofgaa
open Go.Eng Go.RowKit Go.Kuhn

def fitsD (la lb : List Br) (cost : Int) (i k : Nat) : Bool :=
  if h : i < la.length ∧ k < lb.length then decide ((la[i]'h.1).apart (lb[k]'h.2) ≤ cost)
  else if h : i < la.length then decide (la[i].len ≤ cost)
  else if h : k < lb.length then decide (lb[k].len ≤ cost) else true

theorem fits_ok (la lb : List Br) (va vb : Value) (ga gb gc : Nat) (cost : Int) (h : Hp) (hRa : RdL cBr 6 h [] va la) (hRb : RdL cBr 6 h [] vb lb) (hla : la.length ≤ 1000000) (hlb : lb.length ≤ 1000000) (hA : ∀ b ∈ la, BOk b) (hB : ∀ b ∈ lb, BOk b)
    (ca : Cell h [] ⟨ga, 0, none⟩ va) (cb : Cell h [] ⟨gb, 0, none⟩ vb) (cc : Cell h [] ⟨gc, 0, none⟩ (.int .i64 cost)) (i k : Nat) {i' k' : Int} (ei : i' = i) (ek : k' = k) (ms : List Hp) :
    FnV Try.prog 48 ([] ++ [Value.int .i64 i', .int .i64 k'] ++ [Value.pointer (some ⟨ga, 0, none⟩), .pointer (some ⟨gb, 0, none⟩), .pointer (some ⟨gc, 0, none⟩)]).toArray h ms (.bool (fitsD la lb cost i k)) := by
  subst ei ek
  refine fun w hw => (?_ : FnV _ _ _ h [] _) w (hw.weaken (Hp.le_refl _) (List.nil_sublist _))
  refine FnT.toV ?_
  show FnT _ _ #[.int .i64 (i : Int), .int .i64 (k : Int), .pointer (some ⟨ga, 0, none⟩), .pointer (some ⟨gb, 0, none⟩), .pointer (some ⟨gc, 0, none⟩)] _ _ _
  refine fn_enter Try.func48 Try.ntmps48 rfl rfl (fun w0 hw0 => ?_)
  simp only [argS]
  refine ws_seq ?_
  refine ws_region ?_
  refine wl_x (ox_assign rfl rfl) rfl rfl rfl ?_
  refine wl_nil ?_
  refine nx_then ?_
  refine ws_seq ?_
  refine ws_block ?_
  refine ws_seq ?_
  refine ws_region ?_
  refine wl_x (ox_move rfl rfl) rfl rfl rfl ?_
  refine wl_x (ox_load rfl Try.underlying25 rfl rfl (by first | exact ca | exact cb | exact cc)) rfl rfl rfl ?_
  first | refine wl_x (ox_len (ty := 25) rfl Try.underlying25 rfl) rfl rfl rfl ?_ | refine wl_x (ox_lenR hRa.rd rfl Try.underlying25 rfl) rfl rfl rfl ?_ | refine wl_x (ox_lenR hRb.rd rfl Try.underlying25 rfl) rfl rfl rfl ?_
  refine wl_x (ox_lss rfl rfl rfl) rfl rfl rfl ?_
  refine wl_x (ox_move rfl rfl) rfl rfl rfl ?_
  refine wl_split (t := 13) rfl (fun h1 => ?_) (fun h1 => ?_)
  · skip
    refine wl_gx (ox_move rfl rfl) rfl rfl rfl rfl rfl rfl ?_
    refine wl_gx (ox_load rfl Try.underlying25 rfl rfl (by first | exact ca | exact cb | exact cc)) rfl rfl rfl rfl rfl rfl ?_
    first | refine wl_gx (ox_len (ty := 25) rfl Try.underlying25 rfl) rfl rfl rfl rfl rfl rfl ?_ | refine wl_gx (ox_lenR hRa.rd rfl Try.underlying25 rfl) rfl rfl rfl rfl rfl rfl ?_ | refine wl_gx (ox_lenR hRb.rd rfl Try.underlying25 rfl) rfl rfl rfl rfl rfl rfl ?_
    refine wl_gx (ox_lss rfl rfl rfl) rfl rfl rfl rfl rfl rfl ?_
    refine wl_x (ox_pick_t rfl rfl rfl) rfl rfl rfl ?_
    refine wl_x (ox_assign rfl rfl) rfl rfl rfl ?_
    refine wl_nil ?_
    refine nx_then ?_
    refine ws_if rfl (fun h2 => ?_) (fun h2 => ?_)
    · skip
      have h1' : i < la.length := by omega
      have h2' : k < lb.length := by omega
      refine ws_seq ?_
      refine ws_draw 10 fol (by kernel_rfl) rfl ?_
      simp only [List.take_succ_cons, List.take_zero, List.drop_succ_cons, List.drop_zero, List.take_nil, List.drop_nil]
      refine wr_x (ox_load rfl Try.underlying25 rfl rfl (by first | exact ca | exact cb | exact cc)) rfl rfl ?_
      refine wr_x (ox_move rfl rfl) rfl rfl ?_
      first | refine wr_x (ox_index i rfl Try.underlying25 el40 rfl rfl (by omega) (by omega)) rfl rfl ?_ | refine wr_x (ox_indexR i hRa.rd rfl Try.underlying25 el40 rfl rfl (by omega) (by omega)) rfl rfl ?_ | refine wr_x (ox_indexR i hRb.rd rfl Try.underlying25 el40 rfl rfl (by omega) (by omega)) rfl rfl ?_
      refine wr_x (ox_loadG rfl Try.underlying40 rfl el40 rfl rfl (by first | exact hRa.seg h1' | exact hRb.seg h2')) rfl rfl ?_
      refine wr_x (ox_load rfl Try.underlying25 rfl rfl (by first | exact ca | exact cb | exact cc)) rfl rfl ?_
      refine wr_x (ox_move rfl rfl) rfl rfl ?_
      first | refine wr_x (ox_index k rfl Try.underlying25 el40 rfl rfl (by omega) (by omega)) rfl rfl ?_ | refine wr_x (ox_indexR k hRa.rd rfl Try.underlying25 el40 rfl rfl (by omega) (by omega)) rfl rfl ?_ | refine wr_x (ox_indexR k hRb.rd rfl Try.underlying25 el40 rfl rfl (by omega) (by omega)) rfl rfl ?_
      refine wr_x (ox_loadG rfl Try.underlying40 rfl el40 rfl rfl (by first | exact hRa.seg h1' | exact hRb.seg h2')) rfl rfl ?_
      refine wr_x (ox_call rfl Try.call33 rfl (apart_ok _ _ (hA _ (List.getElem_mem h1')) (hB _ (List.getElem_mem h2')) _ _)) rfl rfl ?_
      refine wr_x (ox_load rfl Try.underlying3 rfl rfl (by first | exact ca | exact cb | exact cc)) rfl rfl ?_
      refine wr_nil ?_
      refine wl_x (ox_leq rfl rfl rfl) rfl rfl rfl ?_
      refine wl_x (ox_assign rfl rfl) rfl rfl rfl ?_
      refine wl_nil ?_
      refine nx_then ?_
      refine ws_ret ?_
      refine nx_block_ret ?_
      refine nx_then_ret ?_
      exact nx_ret1 rfl rfl (by unfold fitsD; rw [dif_pos ⟨h1', h2'⟩])
    · skip
      have h1' : i < la.length := by omega
      refine ws_seq ?_
      refine ws_region ?_
      refine wl_x (ox_move rfl rfl) rfl rfl rfl ?_
      refine wl_x (ox_load rfl Try.underlying25 rfl rfl (by first | exact ca | exact cb | exact cc)) rfl rfl rfl ?_
      first | refine wl_x (ox_len (ty := 25) rfl Try.underlying25 rfl) rfl rfl rfl ?_ | refine wl_x (ox_lenR hRa.rd rfl Try.underlying25 rfl) rfl rfl rfl ?_ | refine wl_x (ox_lenR hRb.rd rfl Try.underlying25 rfl) rfl rfl rfl ?_
      refine wl_x (ox_lss rfl rfl rfl) rfl rfl rfl ?_
      refine wl_x (ox_assign rfl rfl) rfl rfl rfl ?_
      refine wl_nil ?_
      refine nx_then ?_
      refine ws_if rfl (fun hc => ?_) (fun hc => absurd (h1) hc)
      refine ws_seq ?_
      refine ws_draw 6 fol (by kernel_rfl) rfl ?_
      simp only [List.take_succ_cons, List.take_zero, List.drop_succ_cons, List.drop_zero, List.take_nil, List.drop_nil]
      refine wr_x (ox_load rfl Try.underlying25 rfl rfl (by first | exact ca | exact cb | exact cc)) rfl rfl ?_
      refine wr_x (ox_move rfl rfl) rfl rfl ?_
      first | refine wr_x (ox_index i rfl Try.underlying25 el40 rfl rfl (by omega) (by omega)) rfl rfl ?_ | refine wr_x (ox_indexR i hRa.rd rfl Try.underlying25 el40 rfl rfl (by omega) (by omega)) rfl rfl ?_ | refine wr_x (ox_indexR i hRb.rd rfl Try.underlying25 el40 rfl rfl (by omega) (by omega)) rfl rfl ?_
      refine wr_x (ox_loadG rfl Try.underlying40 rfl el40 rfl rfl (by first | exact hRa.seg h1')) rfl rfl ?_
      refine wr_x (ox_call rfl Try.call32 rfl (length_ok _ (hA _ (List.getElem_mem h1')) _ _)) rfl rfl ?_
      refine wr_x (ox_load rfl Try.underlying3 rfl rfl (by first | exact ca | exact cb | exact cc)) rfl rfl ?_
      refine wr_nil ?_
      refine wl_x (ox_leq rfl rfl rfl) rfl rfl rfl ?_
      refine wl_x (ox_assign rfl rfl) rfl rfl rfl ?_
      refine wl_nil ?_
      refine nx_then ?_
      refine ws_ret ?_
      refine nx_block_ret ?_
      refine nx_then_ret ?_
      exact nx_ret1 rfl rfl (by unfold fitsD; rw [dif_neg (by omega), dif_pos h1'])
  · skip
    refine wl_skip rfl rfl rfl rfl rfl rfl rfl ?_
    refine wl_skip rfl rfl rfl rfl rfl rfl rfl ?_
    refine wl_skip rfl rfl rfl rfl rfl rfl rfl ?_
    refine wl_skip rfl rfl rfl rfl rfl rfl rfl ?_
    refine wl_x (ox_pick_f rfl rfl rfl) rfl rfl rfl ?_
    refine wl_x (ox_assign rfl rfl) rfl rfl rfl ?_
    refine wl_nil ?_
    refine nx_then ?_
    refine ws_cond_f rfl ?_
    refine ws_seq ?_
    refine ws_region ?_
    refine wl_x (ox_move rfl rfl) rfl rfl rfl ?_
    refine wl_x (ox_load rfl Try.underlying25 rfl rfl (by first | exact ca | exact cb | exact cc)) rfl rfl rfl ?_
    first | refine wl_x (ox_len (ty := 25) rfl Try.underlying25 rfl) rfl rfl rfl ?_ | refine wl_x (ox_lenR hRa.rd rfl Try.underlying25 rfl) rfl rfl rfl ?_ | refine wl_x (ox_lenR hRb.rd rfl Try.underlying25 rfl) rfl rfl rfl ?_
    refine wl_x (ox_lss rfl rfl rfl) rfl rfl rfl ?_
    refine wl_x (ox_assign rfl rfl) rfl rfl rfl ?_
    refine wl_nil ?_
    refine nx_then ?_
    refine ws_if rfl (fun hc => absurd hc (h1)) (fun hc => ?_)
    refine ws_seq ?_
    refine ws_region ?_
    refine wl_x (ox_move rfl rfl) rfl rfl rfl ?_
    refine wl_x (ox_load rfl Try.underlying25 rfl rfl (by first | exact ca | exact cb | exact cc)) rfl rfl rfl ?_
    first | refine wl_x (ox_len (ty := 25) rfl Try.underlying25 rfl) rfl rfl rfl ?_ | refine wl_x (ox_lenR hRa.rd rfl Try.underlying25 rfl) rfl rfl rfl ?_ | refine wl_x (ox_lenR hRb.rd rfl Try.underlying25 rfl) rfl rfl rfl ?_
    refine wl_x (ox_lss rfl rfl rfl) rfl rfl rfl ?_
    refine wl_x (ox_assign rfl rfl) rfl rfl rfl ?_
    refine wl_nil ?_
    refine nx_then ?_
    refine ws_if rfl (fun h3 => ?_) (fun h3 => ?_)
    · skip
      have h3' : k < lb.length := by omega
      refine ws_seq ?_
      refine ws_draw 6 fol (by kernel_rfl) rfl ?_
      simp only [List.take_succ_cons, List.take_zero, List.drop_succ_cons, List.drop_zero, List.take_nil, List.drop_nil]
      refine wr_x (ox_load rfl Try.underlying25 rfl rfl (by first | exact ca | exact cb | exact cc)) rfl rfl ?_
      refine wr_x (ox_move rfl rfl) rfl rfl ?_
      first | refine wr_x (ox_index k rfl Try.underlying25 el40 rfl rfl (by omega) (by omega)) rfl rfl ?_ | refine wr_x (ox_indexR k hRa.rd rfl Try.underlying25 el40 rfl rfl (by omega) (by omega)) rfl rfl ?_ | refine wr_x (ox_indexR k hRb.rd rfl Try.underlying25 el40 rfl rfl (by omega) (by omega)) rfl rfl ?_
      refine wr_x (ox_loadG rfl Try.underlying40 rfl el40 rfl rfl (by first | exact hRb.seg h3')) rfl rfl ?_
      refine wr_x (ox_call rfl Try.call32 rfl (length_ok _ (hB _ (List.getElem_mem h3')) _ _)) rfl rfl ?_
      refine wr_x (ox_load rfl Try.underlying3 rfl rfl (by first | exact ca | exact cb | exact cc)) rfl rfl ?_
      refine wr_nil ?_
      refine wl_x (ox_leq rfl rfl rfl) rfl rfl rfl ?_
      refine wl_x (ox_assign rfl rfl) rfl rfl rfl ?_
      refine wl_nil ?_
      refine nx_then ?_
      refine ws_ret ?_
      refine nx_block_ret ?_
      refine nx_then_ret ?_
      exact nx_ret1 rfl rfl (by unfold fitsD; rw [dif_neg (by omega), dif_neg (by omega), dif_pos h3'])
    · skip
      refine ws_skip ?_
      refine nx_block ?_
      refine nx_then ?_
      refine ws_seq ?_
      refine ws_region ?_
      refine wl_x (ox_assign rfl rfl) rfl rfl rfl ?_
      refine wl_nil ?_
      refine nx_then ?_
      refine ws_ret ?_
      exact nx_ret1 rfl rfl (by unfold fitsD; rw [dif_neg (by omega), dif_neg (by omega), dif_neg (by omega)])
end Go.Proofs.Ythdkhnjnhhofgaa

/- Walks: the search for a partner. -/
set_option linter.unusedSimpArgs false
set_option linter.unusedVariables false
set_option maxRecDepth 100000
namespace Go.Proofs.Ythdkhnjnhhofgaa
open Go.Eng Go.RowKit Go.Kuhn

/-- What a search leaves. -/
def Found (fits : Nat → Nat → Bool) (nl n i : Nat) (seen : List Bool) (part : List Int) (h : Hp) (rest : List Hp) (vs vp : Value) : Value → Hp → List Hp → Prop := fun r h' ms' =>
  ∃ (b : Bool) (m1 m2 : Hp) (seen' : List Bool) (part' : List Int), r = .bool b ∧ h = h' ∧ ms' = rest ++ [m1, m2] ∧ OwnL cB 1 4 m1 vs seen' ∧ OwnL cI 1 3 m2 vp part' ∧ KPre fits nl part' ∧ part'.length = part.length ∧ seen'.length = seen.length ∧
    (b = true → KT fits nl i seen part seen' part') ∧ (b = false → part' = part ∧ LI fits i n n seen part seen')

abbrev pA (g : Nat) : Value := .pointer (some ⟨g, 0, none⟩)
abbrev fitsV (ga gb gc : Nat) : Value := .func (.func 48) ([] : List Value).toArray [pA ga, pA gb, pA gc].toArray
abbrev findV (g1 g2 g3 g4 g5 : Nat) : Value := .func (.func 50) ([] : List Value).toArray [pA g1, pA g2, pA g3, pA g4, pA g5].toArray

theorem find_ok (la lb : List Br) (va vb : Value) (ga gb gc g1 g2 g3 g4 g5 : Nat) (cost : Int) (h : Hp) (hRa : RdL cBr 6 h [] va la) (hRb : RdL cBr 6 h [] vb lb) (hla : la.length ≤ 1000000) (hlb : lb.length ≤ 1000000) (hA : ∀ b ∈ la, BOk b) (hB : ∀ b ∈ lb, BOk b)
    (ca : Cell h [] ⟨ga, 0, none⟩ va) (cb : Cell h [] ⟨gb, 0, none⟩ vb) (cc : Cell h [] ⟨gc, 0, none⟩ (.int .i64 cost)) (n : Nat) (hn : n = la.length + lb.length) (vs vp : Value)
    (c1 : Cell h [] ⟨g1, 0, none⟩ (.int .i64 n)) (c3 : Cell h [] ⟨g3, 0, none⟩ (fitsV ga gb gc)) (c4 : Cell h [] ⟨g4, 0, none⟩ vp) (c5 : Cell h [] ⟨g5, 0, none⟩ (findV g1 g2 g3 g4 g5)) (N : Nat) :
    ∀ (i : Nat) (seen : List Bool) (part : List Int) (ms mp : Hp), unseen seen ≤ N → i < n → seen.length = n → part.length = n → KPre (fitsD la lb cost) n part → OwnL cB 1 4 ms vs seen → OwnL cI 1 3 mp vp part → ∀ {i' : Int}, i' = i →
    FnT Try.prog 50 ([] ++ [Value.int .i64 i'] ++ [pA g1, pA g2, pA g3, pA g4, pA g5]).toArray h [Blk g2 72 [vs], ms, mp] (Found (fitsD la lb cost) n n i seen part h [Blk g2 72 [vs]] vs vp) := by
  induction N using Nat.strongRecOn with
  | _ N ih =>
  intro i seen part ms mp hN hi hsl hpl hK hS hP i' ei
  subst ei
  show FnT _ _ #[.int .i64 (i : Int), pA g1, pA g2, pA g3, pA g4, pA g5] _ _ _
  refine fn_enter Try.func50 Try.ntmps50 rfl rfl (fun w0 hw0 => ?_)
  simp only [argS]
  refine ws_seq ?_
  refine ws_region ?_
  refine wl_x (ox_assign rfl rfl) rfl rfl rfl ?_
  refine wl_nil ?_
  refine nx_then ?_
  refine ws_seq ?_
  refine ws_seq ?_
  refine ws_region ?_
  refine wl_x (ox_load rfl Try.underlying3 rfl rfl (by first | exact c1.any)) rfl rfl rfl ?_
  refine wl_x (ox_move rfl rfl) rfl rfl rfl ?_
  refine wl_nil ?_
  refine nx_then ?_
  refine ws_block ?_
  refine ws_loop (fun q s h' ms' => ∃ (k : Nat) (seen1 : List Bool) (m1 mp1 : Hp), q = n - k ∧ s = [(0, .int .i64 i), (1, pA g1), (2, pA g2), (3, pA g3), (4, pA g4), (5, pA g5), (9, .int .i64 n), (10, .int .i64 k)] ∧ h = h' ∧ ms' = [Blk g2 72 [vs], m1, mp1] ∧ k ≤ n ∧ OwnL cB 1 4 m1 vs seen1 ∧ OwnL cI 1 3 mp1 vp part ∧ LI (fitsD la lb cost) i n k seen part seen1)
    (n - 0) _ ⟨0, seen, ms, mp, rfl, rfl, rfl, rfl, by omega, hS, hP, LI.start⟩ (by repeat (first | exact trivial | refine ⟨rfl, ?_⟩)) ?_
  rintro q s h' ms' ⟨k, seen1, m1, mp1, rfl, rfl, rfl, rfl, hk, hS1, hP1, hL⟩
  refine ws_seq ?_
  refine ws_region ?_
  refine wl_x (ox_lss rfl rfl rfl) rfl rfl rfl ?_
  refine wl_nil ?_
  refine nx_then ?_
  refine ws_seq ?_
  refine ws_if rfl (fun hlt => ?_) (fun hlt => ?_)
  · skip
    have hkn : k < n := by omega
    have hks : k < seen1.length := by rw [hL.slen]; omega
    have hkp : k < part.length := by omega
    have hRs := OwnL.rd hS1 (h := h) (ms := [Blk g2 72 [vs], m1, mp1]) (.tail _ (.head _))
    refine ws_skip ?_
    refine nx_then ?_
    refine ws_seq ?_
    refine ws_block ?_
    refine ws_seq ?_
    refine ws_region ?_
    refine wl_x (ox_move rfl rfl) rfl rfl rfl ?_
    refine wl_x (ox_assign rfl rfl) rfl rfl rfl ?_
    refine wl_nil ?_
    refine nx_then ?_
    refine ws_seq ?_
    refine ws_seq ?_
    refine ws_region ?_
    refine wl_x (ox_load rfl Try.underlying72 rfl rfl (by first | exact Cell.blk0 0 rfl rfl | exact hRs.cell0 hks rfl | exact c3.any)) rfl rfl rfl ?_
    refine wl_x (ox_move rfl rfl) rfl rfl rfl ?_
    first | refine wl_x (ox_index _ rfl Try.underlying72 el4 rfl rfl rfl (by omega)) rfl rfl rfl ?_ | refine wl_x (ox_indexR _ hRs.rd rfl Try.underlying72 el4 rfl rfl rfl (by omega)) rfl rfl rfl ?_
    refine wl_x (ox_load rfl Try.underlying4 rfl rfl (by first | exact Cell.blk0 0 rfl rfl | exact hRs.cell0 hks rfl | exact c3.any)) rfl rfl rfl ?_
    refine wl_x (ox_move rfl rfl) rfl rfl rfl ?_
    refine wl_splitb (t := 17) rfl (fun hsk => ?_) (fun hsk => ?_)
    · skip
      refine wl_skip rfl rfl rfl rfl rfl rfl rfl ?_
      refine wl_skip rfl rfl rfl rfl rfl rfl rfl ?_
      refine wl_skip rfl rfl rfl rfl rfl rfl rfl ?_
      refine wl_skip rfl rfl rfl rfl rfl rfl rfl ?_
      refine wl_skip rfl rfl rfl rfl rfl rfl rfl ?_
      refine wl_x (ox_pick_t rfl rfl rfl) rfl rfl rfl ?_
      refine wl_nil ?_
      refine nx_then ?_
      refine ws_cond_t rfl ?_
      refine ws_exit ?_
      refine nx_then_exit ?_
      refine nx_block_exit ?_
      refine nx_then ?_
      refine ws_region ?_
      refine wl_x (ox_add rfl rfl rfl (by omega)) rfl rfl rfl ?_
      refine wl_x (ox_move rfl rfl) rfl rfl rfl ?_
      refine wl_nil ?_
      refine nx_round (n - (k + 1)) _ (by omega) ⟨k + 1, seen1, m1, mp1, rfl, rfl, rfl, rfl, by omega, hS1, hP1, hL.skip (.inl (by rw [List.getElem?_eq_getElem hks, hsk]))⟩ (by repeat (first | exact trivial | refine ⟨rfl, ?_⟩))
    · skip
      refine wl_gx (ox_load rfl Try.underlying70 rfl rfl (by first | exact Cell.blk0 0 rfl rfl | exact hRs.cell0 hks rfl | exact c3.any)) rfl rfl rfl rfl rfl rfl ?_
      refine wl_gx (ox_move rfl rfl) rfl rfl rfl rfl rfl rfl ?_
      refine wl_gx (ox_move rfl rfl) rfl rfl rfl rfl rfl rfl ?_
      refine wl_gx (ox_callv rfl rfl Try.call48 rfl (fits_ok la lb va vb ga gb gc cost h hRa hRb hla hlb hA hB ca cb cc i k rfl rfl _)) rfl rfl rfl rfl rfl rfl ?_
      refine wl_gx (ox_not rfl rfl) rfl rfl rfl rfl rfl rfl ?_
      refine wl_x (ox_pick_f rfl rfl rfl) rfl rfl rfl ?_
      refine wl_nil ?_
      refine nx_then ?_
      refine ws_cond rfl (fun hft => ?_) (fun hft => ?_)
      · skip
        refine ws_exit ?_
        refine nx_then_exit ?_
        refine nx_block_exit ?_
        refine nx_then ?_
        refine ws_region ?_
        refine wl_x (ox_add rfl rfl rfl (by omega)) rfl rfl rfl ?_
        refine wl_x (ox_move rfl rfl) rfl rfl rfl ?_
        refine wl_nil ?_
        refine nx_round (n - (k + 1)) _ (by omega) ⟨k + 1, seen1, m1, mp1, rfl, rfl, rfl, rfl, by omega, hS1, hP1, hL.skip (.inr (by simpa using hft))⟩ (by repeat (first | exact trivial | refine ⟨rfl, ?_⟩))
      · skip
        have hft' : fitsD la lb cost i k = true := by simpa using hft
        have h0 : seen1[k]? ≠ some true := by rw [List.getElem?_eq_getElem hks, hsk]; simp
        refine ws_skip ?_
        refine nx_then ?_
        refine ws_seq ?_
        refine ws_region ?_
        refine wl_x (ox_load rfl Try.underlying72 rfl rfl (by first | exact Cell.blk0 0 rfl rfl | exact hRs.cell0 hks rfl | exact c3.any)) rfl rfl rfl ?_
        refine wl_x (ox_move rfl rfl) rfl rfl rfl ?_
        first | refine wl_x (ox_index _ rfl Try.underlying72 el4 rfl rfl rfl (by omega)) rfl rfl rfl ?_ | refine wl_x (ox_indexR _ hRs.rd rfl Try.underlying72 el4 rfl rfl rfl (by omega)) rfl rfl rfl ?_
        refine wl_storeL1 (F := cB) (f := fun x => .bool x) (a := true) 1 k (fun _ => rfl) hS1 rfl el4 rfl rfl rfl rfl hks rfl rfl (fun m2 hS2 => ?_)
        have hRp := OwnL.rd hP1 (h := h) (ms := [Blk g2 72 [vs], m2, mp1]) (.tail _ (.tail _ (.head _)))
        refine wl_nil ?_
        refine nx_then ?_
        refine ws_seq ?_
        refine ws_draw 11 fol (by kernel_rfl) rfl ?_
        simp only [List.take_succ_cons, List.take_zero, List.drop_succ_cons, List.drop_zero, List.take_nil, List.drop_nil]
        refine wr_x (ox_load rfl Try.underlying23 rfl rfl (by first | exact c4.any | exact hRp.cell0 hkp rfl | exact c5.any)) rfl rfl ?_
        refine wr_x (ox_move rfl rfl) rfl rfl ?_
        first | refine wr_x (ox_index _ rfl Try.underlying23 el3 rfl rfl rfl (by omega)) rfl rfl ?_ | refine wr_x (ox_indexR _ hRp.rd rfl Try.underlying23 el3 rfl rfl rfl (by omega)) rfl rfl ?_
        refine wr_x (ox_load rfl Try.underlying3 rfl rfl (by first | exact c4.any | exact hRp.cell0 hkp rfl | exact c5.any)) rfl rfl ?_
        refine wr_x (ox_lss rfl rfl rfl) rfl rfl ?_
        refine wr_x (ox_move rfl rfl) rfl rfl ?_
        refine wr_split (t := 32) rfl (fun hneg => ?_) (fun hneg => ?_)
        · skip
          refine wr_skip rfl rfl rfl rfl rfl ?_
          refine wr_skip rfl rfl rfl rfl rfl ?_
          refine wr_skip rfl rfl rfl rfl rfl ?_
          refine wr_skip rfl rfl rfl rfl rfl ?_
          refine wr_skip rfl rfl rfl rfl rfl ?_
          refine wr_nil ?_
          refine wl_skip rfl rfl rfl rfl rfl rfl rfl ?_
          refine wl_x (ox_pick_t rfl rfl rfl) rfl rfl rfl ?_
          refine wl_nil ?_
          refine nx_then ?_
          refine ws_cond_t rfl ?_
          refine ws_seq ?_
          refine ws_region ?_
          refine wl_x (ox_load rfl Try.underlying23 rfl rfl (by first | exact c4.any | exact hRp.cell0 hkp rfl | exact c5.any)) rfl rfl rfl ?_
          refine wl_x (ox_move rfl rfl) rfl rfl rfl ?_
          refine wl_x (ox_move rfl rfl) rfl rfl rfl ?_
          first | refine wl_x (ox_index _ rfl Try.underlying23 el3 rfl rfl rfl (by omega)) rfl rfl rfl ?_ | refine wl_x (ox_indexR _ hRp.rd rfl Try.underlying23 el3 rfl rfl rfl (by omega)) rfl rfl rfl ?_
          refine wl_storeL1 (F := cI) (f := fun x => .int .i64 x) (a := (i : Int)) 2 k (fun _ => rfl) hP1 rfl el3 rfl rfl rfl rfl hkp rfl rfl (fun m3 hP3 => ?_)
          refine wl_nil ?_
          refine nx_then ?_
          refine ws_seq ?_
          refine ws_region ?_
          refine wl_x (ox_assign rfl rfl) rfl rfl rfl ?_
          refine wl_nil ?_
          refine nx_then ?_
          refine ws_ret ?_
          refine nx_block_ret ?_
          refine nx_then_ret ?_
          refine nx_then_ret ?_
          refine nx_block_ret ?_
          refine nx_then_ret ?_
          have hT := hL.free hK hi hkp hks h0 hft' hneg
          exact nx_ret1 rfl rfl (⟨true, m2, m3, _, _, rfl, rfl, rfl, hS2, hP3, hT.pre, hT.plen, hT.slen, fun _ => hT, fun h => (by cases h)⟩)
        · skip
          obtain ⟨p, hp, hpn, hpf⟩ : ∃ p : Nat, part[k] = (p : Int) ∧ p < n ∧ fitsD la lb cost p k = true := by
            rcases hK k hkp with h1 | h1
            · omega
            · exact h1
          have hp' : part[k]? = some (p : Int) := by rw [List.getElem?_eq_getElem hkp, hp]
          have hu : unseen (seen1.set k true) < N := by
            have u1 := unseen_set seen1 k hks hsk
            have u2 := unseen_mono seen seen1 hL.slen hL.mono
            omega
          refine wr_gx (ox_load rfl Try.underlying61 rfl rfl (by first | exact c4.any | exact hRp.cell0 hkp rfl | exact c5.any)) rfl rfl rfl rfl ?_
          refine wr_gx (ox_load rfl Try.underlying23 rfl rfl (by first | exact c4.any | exact hRp.cell0 hkp rfl | exact c5.any)) rfl rfl rfl rfl ?_
          refine wr_gx (ox_move rfl rfl) rfl rfl rfl rfl ?_
          first | refine wr_gx (ox_index _ rfl Try.underlying23 el3 rfl rfl rfl (by omega)) rfl rfl rfl rfl ?_ | refine wr_gx (ox_indexR _ hRp.rd rfl Try.underlying23 el3 rfl rfl rfl (by omega)) rfl rfl rfl rfl ?_
          refine wr_gx (ox_load rfl Try.underlying3 rfl rfl (by first | exact c4.any | exact hRp.cell0 hkp rfl | exact c5.any)) rfl rfl rfl rfl ?_
          refine wr_nil ?_
          refine wl_gcallv_ (pre := [Blk g2 72 [vs], m2, mp1]) rfl rfl Try.call50 rfl (ih _ hu p (seen1.set k true) part m2 mp1 (Nat.le_refl _) hpn (by rw [List.length_set, hL.slen]; exact hsl) hpl hK hS2 hP1 hp) rfl rfl rfl rfl rfl rfl rfl (fun _ _ _ _ hF => ?_)
          obtain ⟨b, m3, mp3, seen3, part3, rfl, rfl, rfl, hS3, hP3, hK3, hpl3, hsl3, hT, hFa⟩ := hF
          simp only [List.cons_append, List.nil_append, List.append_nil]
          refine wl_x (ox_pick_f rfl rfl rfl) rfl rfl rfl ?_
          refine wl_nil ?_
          refine nx_then ?_
          refine ws_cond rfl (fun hb => ?_) (fun hb => ?_)
          · skip
            have hT := hL.moved hi hkp hks h0 hft' hp' (hT hb)
            have hRp := OwnL.rd hP3 (h := h) (ms := [Blk g2 72 [vs], m3, mp3]) (.tail _ (.tail _ (.head _)))
            have hkp3 : k < part3.length := by omega
            refine ws_seq ?_
            refine ws_region ?_
            refine wl_x (ox_load rfl Try.underlying23 rfl rfl (by first | exact c4.any | exact hRp.cell0 hkp rfl | exact c5.any)) rfl rfl rfl ?_
            refine wl_x (ox_move rfl rfl) rfl rfl rfl ?_
            refine wl_x (ox_move rfl rfl) rfl rfl rfl ?_
            first | refine wl_x (ox_index _ rfl Try.underlying23 el3 rfl rfl rfl (by omega)) rfl rfl rfl ?_ | refine wl_x (ox_indexR _ hRp.rd rfl Try.underlying23 el3 rfl rfl rfl (by omega)) rfl rfl rfl ?_
            refine wl_storeL1 (F := cI) (f := fun x => .int .i64 x) (a := (i : Int)) 2 k (fun _ => rfl) hP3 rfl el3 rfl rfl rfl rfl (by rw [hpl3]; exact hkp) rfl rfl (fun m4 hP4 => ?_)
            refine wl_nil ?_
            refine nx_then ?_
            refine ws_seq ?_
            refine ws_region ?_
            refine wl_x (ox_assign rfl rfl) rfl rfl rfl ?_
            refine wl_nil ?_
            refine nx_then ?_
            refine ws_ret ?_
            refine nx_block_ret ?_
            refine nx_then_ret ?_
            refine nx_then_ret ?_
            refine nx_block_ret ?_
            refine nx_then_ret ?_
            exact nx_ret1 rfl rfl (⟨true, m3, m4, _, _, rfl, rfl, rfl, hS3, hP4, hT.pre, hT.plen, hT.slen, fun _ => hT, fun h => (by cases h)⟩)
          · skip
            obtain ⟨rfl, hLF⟩ := hFa hb
            refine ws_skip ?_
            refine nx_block ?_
            refine nx_then ?_
            refine ws_region ?_
            refine wl_x (ox_add rfl rfl rfl (by omega)) rfl rfl rfl ?_
            refine wl_x (ox_move rfl rfl) rfl rfl rfl ?_
            refine wl_nil ?_
            refine nx_round (n - (k + 1)) _ (by omega) ⟨k + 1, seen3, m3, mp3, rfl, rfl, rfl, rfl, by omega, hS3, hP3, hL.fail hks hp' hLF⟩ (by repeat (first | exact trivial | refine ⟨rfl, ?_⟩))
  · skip
    obtain rfl : k = n := by omega
    refine ws_exit ?_
    refine nx_then_exit ?_
    refine nx_then_exit ?_
    refine nx_block_exit ?_
    refine nx_then ?_
    refine ws_seq ?_
    refine ws_region ?_
    refine wl_x (ox_assign rfl rfl) rfl rfl rfl ?_
    refine wl_nil ?_
    refine nx_then ?_
    refine ws_ret ?_
    exact nx_ret1 rfl rfl (⟨false, m1, mp1, seen1, part, rfl, rfl, rfl, hS1, hP1, hK, rfl, hL.slen, fun h => (by cases h), fun _ => ⟨rfl, hL⟩⟩)
end Go.Proofs.Ythdkhnjnhhofgaa

/- Walks: a possible cost, whole. -/
set_option linter.unusedSimpArgs false
set_option linter.unusedVariables false
set_option maxRecDepth 100000
namespace Go.Proofs.Ythdkhnjnhhofgaa
open Go.Eng Go.RowKit Go.Kuhn

theorem own_rep (g n : Nat) (hn : n ≤ 9223372036854775807) : OwnL cB 1 4 (Blk g 4 (List.replicate n (Value.bool false))) (.slice (some ⟨g, 0, none⟩) n n) (List.replicate n false) :=
  ⟨⟨by rw [← cB_rep]; simp, .inr ⟨g, n, [], by simp, by rw [← cB_rep]; simp, by rw [← cB_rep]; simp, by simp, hn⟩⟩, cB_len⟩

theorem possible_ok (la lb : List Br) (va vb : Value) (cost : Int) (h : Hp) (hRa : RdL cBr 6 h [] va la) (hRb : RdL cBr 6 h [] vb lb) (hla : la.length ≤ 1000000) (hlb : lb.length ≤ 1000000) (hA : ∀ b ∈ la, BOk b) (hB : ∀ b ∈ lb, BOk b) :
    FnT Try.prog 37 #[va, vb, .int .i64 cost] h [] (fun r _ _ => ∃ b, r = .bool b ∧ (b = true → Pos (fitsD la lb cost) (la.length + lb.length)) ∧ (b = false → Neg (fitsD la lb cost) (la.length + lb.length))) := by
  refine fn_enter Try.func37 Try.ntmps37 rfl rfl (fun w0 hw0 => ?_)
  simp only [argS]
  refine ws_seq ?_
  refine ws_region ?_
  refine wl_box [_] rfl rfl (by first | rfl | exact (hRa.rd.any).cells | exact (hRb.rd.any).cells | exact Rd.cells ‹_› | exact (RdL.rd ‹_›).cells) rfl rfl rfl (fun g3 => ?_)
  refine wl_box [_] rfl rfl (by first | rfl | exact (hRa.rd.any).cells | exact (hRb.rd.any).cells | exact Rd.cells ‹_› | exact (RdL.rd ‹_›).cells) rfl rfl rfl (fun g4 => ?_)
  refine wl_box [_] rfl rfl (by first | rfl | exact (hRa.rd.any).cells | exact (hRb.rd.any).cells | exact Rd.cells ‹_› | exact (RdL.rd ‹_›).cells) rfl rfl rfl (fun g5 => ?_)
  refine wl_x (ox_assign rfl rfl) rfl rfl rfl ?_
  refine wl_nil ?_
  refine nx_then ?_
  refine ws_seq ?_
  refine ws_region ?_
  refine wl_x (ox_load rfl Try.underlying25 rfl rfl (by first | exact Cell.blk0 0 rfl rfl | exact Cell.blk0 1 rfl rfl | exact Cell.blk0 2 rfl rfl | exact Cell.blk0 3 rfl rfl | exact Cell.blk0 4 rfl rfl | exact Cell.blk0 5 rfl rfl | exact Cell.blk0 6 rfl rfl | exact Cell.blk0 7 rfl rfl)) rfl rfl rfl ?_
  first | refine wl_x (ox_len (ty := 25) rfl Try.underlying25 rfl) rfl rfl rfl ?_ | refine wl_x (ox_lenR hRa.rd.any rfl Try.underlying25 rfl) rfl rfl rfl ?_ | refine wl_x (ox_lenR hRb.rd.any rfl Try.underlying25 rfl) rfl rfl rfl ?_
  refine wl_x (ox_load rfl Try.underlying25 rfl rfl (by first | exact Cell.blk0 0 rfl rfl | exact Cell.blk0 1 rfl rfl | exact Cell.blk0 2 rfl rfl | exact Cell.blk0 3 rfl rfl | exact Cell.blk0 4 rfl rfl | exact Cell.blk0 5 rfl rfl | exact Cell.blk0 6 rfl rfl | exact Cell.blk0 7 rfl rfl)) rfl rfl rfl ?_
  first | refine wl_x (ox_len (ty := 25) rfl Try.underlying25 rfl) rfl rfl rfl ?_ | refine wl_x (ox_lenR hRa.rd.any rfl Try.underlying25 rfl) rfl rfl rfl ?_ | refine wl_x (ox_lenR hRb.rd.any rfl Try.underlying25 rfl) rfl rfl rfl ?_
  refine wl_x (ox_add rfl rfl rfl (by omega)) rfl rfl rfl ?_
  refine wl_alloc [.int .i64 0] rfl el3 rfl rfl rfl rfl (fun g7 => ?_)
  first | refine wl_storeAt 0 0 rfl el3 rfl rfl (by first | rfl | exact Rd.one ‹_› | exact (RdL.rd ‹_›).one) rfl rfl (by first | decide | (simp; done) | exact of_decide_eq_true rfl | (simp; omega)) rfl rfl ?_ | refine wl_storeAt 1 0 rfl el3 rfl rfl (by first | rfl | exact Rd.one ‹_› | exact (RdL.rd ‹_›).one) rfl rfl (by first | decide | (simp; done) | exact of_decide_eq_true rfl | (simp; omega)) rfl rfl ?_ | refine wl_storeAt 2 0 rfl el3 rfl rfl (by first | rfl | exact Rd.one ‹_› | exact (RdL.rd ‹_›).one) rfl rfl (by first | decide | (simp; done) | exact of_decide_eq_true rfl | (simp; omega)) rfl rfl ?_ | refine wl_storeAt 3 0 rfl el3 rfl rfl (by first | rfl | exact Rd.one ‹_› | exact (RdL.rd ‹_›).one) rfl rfl (by first | decide | (simp; done) | exact of_decide_eq_true rfl | (simp; omega)) rfl rfl ?_ | refine wl_storeAt 4 0 rfl el3 rfl rfl (by first | rfl | exact Rd.one ‹_› | exact (RdL.rd ‹_›).one) rfl rfl (by first | decide | (simp; done) | exact of_decide_eq_true rfl | (simp; omega)) rfl rfl ?_ | refine wl_storeAt 5 0 rfl el3 rfl rfl (by first | rfl | exact Rd.one ‹_› | exact (RdL.rd ‹_›).one) rfl rfl (by first | decide | (simp; done) | exact of_decide_eq_true rfl | (simp; omega)) rfl rfl ?_ | refine wl_storeAt 6 0 rfl el3 rfl rfl (by first | rfl | exact Rd.one ‹_› | exact (RdL.rd ‹_›).one) rfl rfl (by first | decide | (simp; done) | exact of_decide_eq_true rfl | (simp; omega)) rfl rfl ?_ | refine wl_storeAt 7 0 rfl el3 rfl rfl (by first | rfl | exact Rd.one ‹_› | exact (RdL.rd ‹_›).one) rfl rfl (by first | decide | (simp; done) | exact of_decide_eq_true rfl | (simp; omega)) rfl rfl ?_
  refine wl_nil ?_
  refine nx_then ?_
  refine ws_seq ?_
  refine ws_region ?_
  refine wl_x (ox_makeFunc rfl rfl rfl) rfl rfl rfl ?_
  refine wl_alloc [.nilFunc] rfl el70 rfl rfl rfl rfl (fun g8 => ?_)
  first | refine wl_storeAt 0 0 rfl el70 rfl rfl (by first | rfl | exact Rd.one ‹_› | exact (RdL.rd ‹_›).one) rfl rfl (by first | decide | (simp; done) | exact of_decide_eq_true rfl | (simp; omega)) rfl rfl ?_ | refine wl_storeAt 1 0 rfl el70 rfl rfl (by first | rfl | exact Rd.one ‹_› | exact (RdL.rd ‹_›).one) rfl rfl (by first | decide | (simp; done) | exact of_decide_eq_true rfl | (simp; omega)) rfl rfl ?_ | refine wl_storeAt 2 0 rfl el70 rfl rfl (by first | rfl | exact Rd.one ‹_› | exact (RdL.rd ‹_›).one) rfl rfl (by first | decide | (simp; done) | exact of_decide_eq_true rfl | (simp; omega)) rfl rfl ?_ | refine wl_storeAt 3 0 rfl el70 rfl rfl (by first | rfl | exact Rd.one ‹_› | exact (RdL.rd ‹_›).one) rfl rfl (by first | decide | (simp; done) | exact of_decide_eq_true rfl | (simp; omega)) rfl rfl ?_ | refine wl_storeAt 4 0 rfl el70 rfl rfl (by first | rfl | exact Rd.one ‹_› | exact (RdL.rd ‹_›).one) rfl rfl (by first | decide | (simp; done) | exact of_decide_eq_true rfl | (simp; omega)) rfl rfl ?_ | refine wl_storeAt 5 0 rfl el70 rfl rfl (by first | rfl | exact Rd.one ‹_› | exact (RdL.rd ‹_›).one) rfl rfl (by first | decide | (simp; done) | exact of_decide_eq_true rfl | (simp; omega)) rfl rfl ?_ | refine wl_storeAt 6 0 rfl el70 rfl rfl (by first | rfl | exact Rd.one ‹_› | exact (RdL.rd ‹_›).one) rfl rfl (by first | decide | (simp; done) | exact of_decide_eq_true rfl | (simp; omega)) rfl rfl ?_ | refine wl_storeAt 7 0 rfl el70 rfl rfl (by first | rfl | exact Rd.one ‹_› | exact (RdL.rd ‹_›).one) rfl rfl (by first | decide | (simp; done) | exact of_decide_eq_true rfl | (simp; omega)) rfl rfl ?_
  refine wl_nil ?_
  refine nx_then ?_
  refine ws_seq ?_
  refine ws_region ?_
  refine wl_buildSlice1 [_] rfl Try.underlying23 el3 rfl (by first | rfl | exact (hRa.rd.any).cells | exact (hRb.rd.any).cells | exact Rd.cells ‹_› | exact (RdL.rd ‹_›).cells) rfl rfl (by omega) rfl rfl rfl (fun g19 => ?_)
  refine wl_freezeB (fun h1 hle1 s19 => ?_)
  have hR19 : RdL cI 1 h1 [] (.slice (some ⟨g19, 0, none⟩) 1 1) [-1] := ⟨⟨_, 1, rfl, by simp, by omega, rfl, fun _ => ⟨_, rfl, s19⟩⟩, cI_len⟩
  obtain ⟨n, hn⟩ : ∃ n, n = la.length + lb.length := ⟨_, rfl⟩
  rw [← hn]
  refine wl_x (ox_load rfl Try.underlying3 rfl rfl (by first | exact Cell.blk0 0 rfl rfl | exact Cell.blk0 1 rfl rfl | exact Cell.blk0 2 rfl rfl | exact Cell.blk0 3 rfl rfl | exact Cell.blk0 4 rfl rfl | exact Cell.blk0 5 rfl rfl | exact Cell.blk0 6 rfl rfl | exact Cell.blk0 7 rfl rfl)) rfl rfl rfl ?_
  refine wl_call rfl Try.call49 rfl (repeat_ok n (by omega) _ h1 hR19 (by omega)) rfl rfl rfl (fun vp _ _ _ hL => ?_)
  obtain ⟨rfl, mp, rfl, hP⟩ := hL
  simp only [List.cons_append, List.nil_append]
  have hRp := OwnL.rd hP (h := h1) (ms := [mp]) (.head _)
  refine wl_alloc [.slice none 0 0] rfl el23 rfl rfl rfl rfl (fun g9 => ?_)
  first | refine wl_storeAt 0 0 rfl el23 rfl rfl (by first | rfl | exact Rd.one ‹_› | exact (RdL.rd ‹_›).one) rfl rfl (by first | decide | (simp; done) | exact of_decide_eq_true rfl | (simp; omega)) rfl rfl ?_ | refine wl_storeAt 1 0 rfl el23 rfl rfl (by first | rfl | exact Rd.one ‹_› | exact (RdL.rd ‹_›).one) rfl rfl (by first | decide | (simp; done) | exact of_decide_eq_true rfl | (simp; omega)) rfl rfl ?_ | refine wl_storeAt 2 0 rfl el23 rfl rfl (by first | rfl | exact Rd.one ‹_› | exact (RdL.rd ‹_›).one) rfl rfl (by first | decide | (simp; done) | exact of_decide_eq_true rfl | (simp; omega)) rfl rfl ?_ | refine wl_storeAt 3 0 rfl el23 rfl rfl (by first | rfl | exact Rd.one ‹_› | exact (RdL.rd ‹_›).one) rfl rfl (by first | decide | (simp; done) | exact of_decide_eq_true rfl | (simp; omega)) rfl rfl ?_ | refine wl_storeAt 4 0 rfl el23 rfl rfl (by first | rfl | exact Rd.one ‹_› | exact (RdL.rd ‹_›).one) rfl rfl (by first | decide | (simp; done) | exact of_decide_eq_true rfl | (simp; omega)) rfl rfl ?_ | refine wl_storeAt 5 0 rfl el23 rfl rfl (by first | rfl | exact Rd.one ‹_› | exact (RdL.rd ‹_›).one) rfl rfl (by first | decide | (simp; done) | exact of_decide_eq_true rfl | (simp; omega)) rfl rfl ?_ | refine wl_storeAt 6 0 rfl el23 rfl rfl (by first | rfl | exact Rd.one ‹_› | exact (RdL.rd ‹_›).one) rfl rfl (by first | decide | (simp; done) | exact of_decide_eq_true rfl | (simp; omega)) rfl rfl ?_ | refine wl_storeAt 7 0 rfl el23 rfl rfl (by first | rfl | exact Rd.one ‹_› | exact (RdL.rd ‹_›).one) rfl rfl (by first | decide | (simp; done) | exact of_decide_eq_true rfl | (simp; omega)) rfl rfl ?_
  refine wl_nil ?_
  refine nx_then ?_
  refine ws_seq ?_
  refine ws_region ?_
  refine wl_alloc [.slice none 0 0] rfl el72 rfl rfl rfl rfl (fun g10 => ?_)
  refine wl_nil ?_
  refine nx_then ?_
  refine ws_seq ?_
  refine ws_region ?_
  refine wl_alloc [.nilFunc] rfl el61 rfl rfl rfl rfl (fun g11 => ?_)
  refine wl_nil ?_
  refine nx_then ?_
  refine ws_seq ?_
  refine ws_region ?_
  refine wl_x (ox_makeFunc rfl rfl rfl) rfl rfl rfl ?_
  first | refine wl_storeAt 0 0 rfl el61 rfl rfl (by first | rfl | exact Rd.one ‹_› | exact (RdL.rd ‹_›).one) rfl rfl (by first | decide | (simp; done) | exact of_decide_eq_true rfl | (simp; omega)) rfl rfl ?_ | refine wl_storeAt 1 0 rfl el61 rfl rfl (by first | rfl | exact Rd.one ‹_› | exact (RdL.rd ‹_›).one) rfl rfl (by first | decide | (simp; done) | exact of_decide_eq_true rfl | (simp; omega)) rfl rfl ?_ | refine wl_storeAt 2 0 rfl el61 rfl rfl (by first | rfl | exact Rd.one ‹_› | exact (RdL.rd ‹_›).one) rfl rfl (by first | decide | (simp; done) | exact of_decide_eq_true rfl | (simp; omega)) rfl rfl ?_ | refine wl_storeAt 3 0 rfl el61 rfl rfl (by first | rfl | exact Rd.one ‹_› | exact (RdL.rd ‹_›).one) rfl rfl (by first | decide | (simp; done) | exact of_decide_eq_true rfl | (simp; omega)) rfl rfl ?_ | refine wl_storeAt 4 0 rfl el61 rfl rfl (by first | rfl | exact Rd.one ‹_› | exact (RdL.rd ‹_›).one) rfl rfl (by first | decide | (simp; done) | exact of_decide_eq_true rfl | (simp; omega)) rfl rfl ?_ | refine wl_storeAt 5 0 rfl el61 rfl rfl (by first | rfl | exact Rd.one ‹_› | exact (RdL.rd ‹_›).one) rfl rfl (by first | decide | (simp; done) | exact of_decide_eq_true rfl | (simp; omega)) rfl rfl ?_ | refine wl_storeAt 6 0 rfl el61 rfl rfl (by first | rfl | exact Rd.one ‹_› | exact (RdL.rd ‹_›).one) rfl rfl (by first | decide | (simp; done) | exact of_decide_eq_true rfl | (simp; omega)) rfl rfl ?_ | refine wl_storeAt 7 0 rfl el61 rfl rfl (by first | rfl | exact Rd.one ‹_› | exact (RdL.rd ‹_›).one) rfl rfl (by first | decide | (simp; done) | exact of_decide_eq_true rfl | (simp; omega)) rfl rfl ?_
  refine wl_nil ?_
  refine nx_then ?_
  refine ws_freezeI 0 rfl (fun h2 l2 s11 => ?_)
  refine ws_freezeI 1 rfl (fun h3 l3 s9 => ?_)
  refine ws_freezeI 2 rfl (fun h4 l4 s8 => ?_)
  refine ws_freezeI 2 rfl (fun h5 l5 s7 => ?_)
  refine ws_freezeI 2 rfl (fun h6 l6 s5 => ?_)
  refine ws_freezeI 2 rfl (fun h7 l7 s4 => ?_)
  refine ws_freezeI 2 rfl (fun h8 l8 s3 => ?_)
  have t3 := l8
  have t4 := Hp.le_trans l7 t3
  have t5 := Hp.le_trans l6 t4
  have t6 := Hp.le_trans l5 t5
  have t7 := Hp.le_trans l4 t6
  have t8 := Hp.le_trans l3 t7
  have t9 := Hp.le_trans l2 t8
  have t10 := Hp.le_trans hle1 t9
  have ca : Cell h8 [] ⟨g3, 0, none⟩ va := s3.at0 rfl
  have cb : Cell h8 [] ⟨g4, 0, none⟩ vb := (s4.at0 rfl).le t3
  have cc : Cell h8 [] ⟨g5, 0, none⟩ (.int .i64 cost) := (s5.at0 rfl).le t4
  have c7 : Cell h8 [] ⟨g7, 0, none⟩ (.int .i64 n) := (s7.le t5).at0 (by rw [hn]; simp)
  have c8 : Cell h8 [] ⟨g8, 0, none⟩ (fitsV g3 g4 g5) := (s8.at0 rfl).le t6
  have c9 : Cell h8 [] ⟨g9, 0, none⟩ vp := (s9.at0 rfl).le t7
  have c11 : Cell h8 [] ⟨g11, 0, none⟩ (findV g7 g10 g8 g9 g11) := (s11.at0 rfl).le t8
  have hRa' := hRa.up t10
  have hRb' := hRb.up t10
  clear s3 s4 s5 s7 s8 s9 s11 s19 hR19 t3 t4 t5 t6 t7 t8 t9 t10 l2 l3 l4 l5 l6 l7 l8 hle1
  try simp only [List.eraseIdx_cons_zero, List.eraseIdx_cons_succ]
  have hcnt : ∀ x : Nat, (List.replicate n (-1 : Int)).count (x : Int) = if x < 0 then 1 else 0 := fun x => by
    rw [List.count_replicate, if_neg (by simp), if_neg (by omega)]
  have hK0 : KPre (fitsD la lb cost) n (List.replicate n (-1)) := fun k hk => .inl (by simp)
  refine ws_seq ?_
  refine ws_seq ?_
  refine ws_region ?_
  refine wl_x (ox_load rfl Try.underlying3 rfl rfl (by first | exact Cell.blk0 0 rfl rfl | exact Cell.blk0 1 rfl rfl | exact Cell.blk0 2 rfl rfl | exact Cell.blk0 3 rfl rfl | exact Cell.blk0 4 rfl rfl | exact Cell.blk0 5 rfl rfl | exact Cell.blk0 6 rfl rfl | exact Cell.blk0 7 rfl rfl | exact c7.any | exact c11.any)) rfl rfl rfl ?_
  refine wl_x (ox_move rfl rfl) rfl rfl rfl ?_
  refine wl_nil ?_
  refine nx_then ?_
  refine ws_block ?_
  refine ws_loop (fun q s h' ms' => ∃ (i : Nat) (part : List Int) (m : Hp) (vold : Value), q = n - i ∧ s = [(7, pA g7), (10, pA g10), (11, pA g11), (23, .int .i64 n), (24, .int .i64 i)] ∧ h8 = h' ∧ ms' = [Blk g10 72 [vold], m] ∧ i ≤ n ∧ part.length = n ∧ OwnL cI 1 3 m vp part ∧ KPre (fitsD la lb cost) n part ∧ ∀ x : Nat, part.count (x : Int) = if x < i then 1 else 0)
    (n - 0) _ ⟨0, _, mp, _, rfl, rfl, rfl, rfl, by omega, by simp, hP, hK0, hcnt⟩ (by repeat (first | exact trivial | refine ⟨rfl, ?_⟩)) ?_
  clear hcnt hP hRp
  rintro q s h' ms' ⟨i, part, m, vold, rfl, rfl, rfl, rfl, hi, hpl, hP, hK, hcnt⟩
  clear hK0
  refine ws_seq ?_
  refine ws_region ?_
  refine wl_x (ox_lss rfl rfl rfl) rfl rfl rfl ?_
  refine wl_nil ?_
  refine nx_then ?_
  refine ws_seq ?_
  refine ws_if rfl (fun hlt => ?_) (fun hlt => ?_)
  · skip
    refine ws_skip ?_
    refine nx_then ?_
    refine ws_seq ?_
    refine ws_block ?_
    refine ws_seq ?_
    refine ws_region ?_
    refine wl_x (ox_move rfl rfl) rfl rfl rfl ?_
    refine wl_x (ox_assign rfl rfl) rfl rfl rfl ?_
    refine wl_nil ?_
    refine nx_then ?_
    refine ws_seq ?_
    refine ws_region ?_
    refine wl_x (ox_load rfl Try.underlying3 rfl rfl (by first | exact Cell.blk0 0 rfl rfl | exact Cell.blk0 1 rfl rfl | exact Cell.blk0 2 rfl rfl | exact Cell.blk0 3 rfl rfl | exact Cell.blk0 4 rfl rfl | exact Cell.blk0 5 rfl rfl | exact Cell.blk0 6 rfl rfl | exact Cell.blk0 7 rfl rfl | exact c7.any | exact c11.any)) rfl rfl rfl ?_
    refine wl_make (n := n) rfl Try.underlying72 el4 rfl rfl rfl (by first | rfl | omega) (by first | rfl | omega) (by omega) (by omega) rfl rfl rfl (fun g28 => ?_)
    first | refine wl_storeAt 0 0 rfl el72 rfl rfl (by first | rfl | exact Rd.one ‹_› | exact (RdL.rd ‹_›).one) rfl rfl (by first | decide | (simp; done) | exact of_decide_eq_true rfl | (simp; omega)) rfl rfl ?_ | refine wl_storeAt 1 0 rfl el72 rfl rfl (by first | rfl | exact Rd.one ‹_› | exact (RdL.rd ‹_›).one) rfl rfl (by first | decide | (simp; done) | exact of_decide_eq_true rfl | (simp; omega)) rfl rfl ?_ | refine wl_storeAt 2 0 rfl el72 rfl rfl (by first | rfl | exact Rd.one ‹_› | exact (RdL.rd ‹_›).one) rfl rfl (by first | decide | (simp; done) | exact of_decide_eq_true rfl | (simp; omega)) rfl rfl ?_ | refine wl_storeAt 3 0 rfl el72 rfl rfl (by first | rfl | exact Rd.one ‹_› | exact (RdL.rd ‹_›).one) rfl rfl (by first | decide | (simp; done) | exact of_decide_eq_true rfl | (simp; omega)) rfl rfl ?_ | refine wl_storeAt 4 0 rfl el72 rfl rfl (by first | rfl | exact Rd.one ‹_› | exact (RdL.rd ‹_›).one) rfl rfl (by first | decide | (simp; done) | exact of_decide_eq_true rfl | (simp; omega)) rfl rfl ?_ | refine wl_storeAt 5 0 rfl el72 rfl rfl (by first | rfl | exact Rd.one ‹_› | exact (RdL.rd ‹_›).one) rfl rfl (by first | decide | (simp; done) | exact of_decide_eq_true rfl | (simp; omega)) rfl rfl ?_ | refine wl_storeAt 6 0 rfl el72 rfl rfl (by first | rfl | exact Rd.one ‹_› | exact (RdL.rd ‹_›).one) rfl rfl (by first | decide | (simp; done) | exact of_decide_eq_true rfl | (simp; omega)) rfl rfl ?_ | refine wl_storeAt 7 0 rfl el72 rfl rfl (by first | rfl | exact Rd.one ‹_› | exact (RdL.rd ‹_›).one) rfl rfl (by first | decide | (simp; done) | exact of_decide_eq_true rfl | (simp; omega)) rfl rfl ?_
    refine wl_nil ?_
    refine nx_then ?_
    refine ws_seq ?_
    refine ws_region ?_
    refine wl_x (ox_load rfl Try.underlying61 rfl rfl (by first | exact Cell.blk0 0 rfl rfl | exact Cell.blk0 1 rfl rfl | exact Cell.blk0 2 rfl rfl | exact Cell.blk0 3 rfl rfl | exact Cell.blk0 4 rfl rfl | exact Cell.blk0 5 rfl rfl | exact Cell.blk0 6 rfl rfl | exact Cell.blk0 7 rfl rfl | exact c7.any | exact c11.any)) rfl rfl rfl ?_
    refine wl_x (ox_move rfl rfl) rfl rfl rfl ?_
    refine wl_perm (List.Perm.swap _ _ _) ?_
    refine wl_callv_ (pre := [Blk g10 72 [.slice (some ⟨g28, 0, none⟩) n n], Blk g28 4 (List.replicate n (Value.bool false)), m]) rfl rfl Try.call50 rfl (find_ok la lb va vb g3 g4 g5 g7 g10 g8 g9 g11 cost h8 hRa' hRb' hla hlb hA hB ca cb cc n hn _ vp c7 c8 c9 c11 _ i (List.replicate n false) part _ m (Nat.le_refl _) (by omega) (by simp) hpl hK (own_rep g28 n (by omega)) hP rfl) rfl rfl rfl rfl (fun _ _ _ _ hF => ?_)
    obtain ⟨b, m1, m2, seen', part', rfl, rfl, rfl, hS1, hP1, hK1, hpl1, hsl1, hT, hFa⟩ := hF
    simp only [List.cons_append, List.nil_append, List.append_nil]
    refine wl_x (ox_not rfl rfl) rfl rfl rfl ?_
    refine wl_nil ?_
    refine nx_then ?_
    refine ws_cond rfl (fun hb => ?_) (fun hb => ?_)
    · skip
      have hb' : b = false := by simpa using hb
      obtain ⟨rfl, hL⟩ := hFa hb'
      refine ws_seq ?_
      refine ws_region ?_
      refine wl_x (ox_assign rfl rfl) rfl rfl rfl ?_
      refine wl_nil ?_
      refine nx_then ?_
      refine ws_ret ?_
      refine nx_block_ret ?_
      refine nx_then_ret ?_
      refine nx_then_ret ?_
      refine nx_block_ret ?_
      refine nx_then_ret ?_
      exact nx_ret1 rfl rfl (⟨false, rfl, fun h => (by cases h), fun _ => ⟨i, part', seen', by omega, hpl, hK, hcnt, hL⟩⟩)
    · skip
      have hb' : b = true := by simpa using hb
      have hT := hT hb'
      refine ws_skip ?_
      refine nx_block ?_
      refine nx_then ?_
      refine ws_region ?_
      refine wl_x (ox_add rfl rfl rfl (by omega)) rfl rfl rfl ?_
      refine wl_x (ox_move rfl rfl) rfl rfl rfl ?_
      refine wl_nil ?_
      refine nx_perm (ms' := [m1, Blk g10 72 [.slice (some ⟨g28, 0, none⟩) n n], m2]) (List.Perm.swap _ _ _) (nx_drop ?_)
      refine nx_round (n - (i + 1)) _ (by omega) ⟨i + 1, part', m2, _, rfl, rfl, rfl, rfl, by omega, by omega, hP1, hK1, fun x => ?_⟩ (by repeat (first | exact trivial | refine ⟨rfl, ?_⟩))
      rw [hT.cnt x, hcnt x]
      by_cases h1 : x < i
      · rw [if_pos h1, if_neg (by omega), if_pos (by omega)]
      · by_cases h2 : x = i
        · rw [if_neg h1, if_pos h2, if_pos (by omega)]
        · rw [if_neg h1, if_neg h2, if_neg (by omega)]
  · skip
    obtain rfl : i = n := by omega
    refine ws_exit ?_
    refine nx_then_exit ?_
    refine nx_then_exit ?_
    refine nx_block_exit ?_
    refine nx_then ?_
    refine ws_seq ?_
    refine ws_region ?_
    refine wl_x (ox_assign rfl rfl) rfl rfl rfl ?_
    refine wl_nil ?_
    refine nx_then ?_
    refine ws_ret ?_
    exact nx_ret1 rfl rfl (⟨true, rfl, fun _ => ⟨part, hpl, hK, fun x hx => by rw [hcnt x, if_pos hx]⟩, fun h => by cases h⟩)

open Classical in
/-- Has everyone a partner? -/
noncomputable def posB (F : Nat → Nat → Bool) (n : Nat) : Bool := decide (Pos F n)
theorem possible_v (la lb : List Br) (va vb : Value) (cost : Int) (h : Hp) (hRa : RdL cBr 6 h [] va la) (hRb : RdL cBr 6 h [] vb lb) (hla : la.length ≤ 1000000) (hlb : lb.length ≤ 1000000) (hA : ∀ b ∈ la, BOk b) (hB : ∀ b ∈ lb, BOk b) (ms : List Hp) :
    FnV Try.prog 37 #[va, vb, .int .i64 cost] h ms (.bool (posB (fitsD la lb cost) (la.length + lb.length))) := by
  refine fun w hw => (?_ : FnV _ _ _ h [] _) w (hw.weaken (Hp.le_refl _) (List.nil_sublist _))
  refine FnT.toV (FnT.mono (possible_ok la lb va vb cost h hRa hRb hla hlb hA hB) ?_)
  rintro r h' ms' ⟨b, rfl, h1, h2⟩
  unfold posB
  cases b with
  | true => simp [h1 rfl]
  | false => simp [neg_not_pos (h2 rfl)]
end Go.Proofs.Ythdkhnjnhhofgaa

/- Walks: the distance. -/
set_option linter.unusedSimpArgs false
set_option linter.unusedVariables false
set_option maxRecDepth 100000
namespace Go.Proofs.Ythdkhnjnhhofgaa
open Go.Eng Go.RowKit Go.Kuhn

def leastOf (l : List (Int × Int)) : Int := l.foldl (fun m p => max m (2 * iabs (p.1 - p.2))) 0
def costsOf (p q : List Br) (m : Int) : List Int := m :: (p.flatMap fun x => x.len :: q.map x.apart) ++ q.map Br.len
/-- The costs that are tried. -/
def tried (p q : List Br) (m : Int) : List Int := Lib.compact ((isort (costsOf p q m)).filter fun n => decide (m ≤ n))

theorem leastOf_snoc (l : List (Int × Int)) (p : Int × Int) : leastOf (l ++ [p]) = max (leastOf l) (2 * iabs (p.1 - p.2)) := by simp [leastOf]
theorem foldl_bd (M : Int) : ∀ (l : List (Int × Int)) (a : Int), 0 ≤ a → a ≤ M → (∀ p ∈ l, 2 * iabs (p.1 - p.2) ≤ M) → 0 ≤ l.foldl (fun m p => max m (2 * iabs (p.1 - p.2))) a ∧ l.foldl (fun m p => max m (2 * iabs (p.1 - p.2))) a ≤ M
  | [], a, h1, h2, _ => ⟨h1, h2⟩
  | p :: l, a, h1, h2, h => foldl_bd M l _ (by show 0 ≤ max a _; omega) (by have := h p (by simp); show max a (2 * iabs (p.1 - p.2)) ≤ M; omega) fun q hq => h q (by simp [hq])
theorem leastOf_bd (l : List (Int × Int)) (h : ∀ p ∈ l, iabs (p.1 - p.2) ≤ 2000000000000) : 0 ≤ leastOf l ∧ leastOf l ≤ 4000000000000 :=
  foldl_bd 4000000000000 l 0 (by omega) (by omega) fun p hp => by have := h p hp; omega
theorem birthsOf_bd (dim : Int) (l : List Br) (h : ∀ b ∈ l, BOk b) : ∀ x ∈ birthsOf dim l, -1000000000000 ≤ x ∧ x ≤ 1000000000000 := by
  intro x hx
  have := (isort_perm _).mem_iff.1 hx
  obtain ⟨b, hb, rfl⟩ := List.mem_map.1 this
  have := h b (List.mem_filter.1 hb).1
  exact ⟨this.b1, this.b2⟩

theorem birthsOf_len (dim : Int) (l : List Br) : (birthsOf dim l).length ≤ l.length := by
  unfold birthsOf
  rw [(isort_perm _).length_eq, List.length_map]
  exact List.length_filter_le _ _
theorem own_one (g : Nat) (x : Int) : OwnL cI 1 3 (Blk g 3 [.int .i64 x]) (.slice (some ⟨g, 0, none⟩) 1 1) [x] :=
  ⟨⟨rfl, .inr ⟨g, 1, [], rfl, rfl, rfl, Nat.le_refl _, by omega⟩⟩, cI_len⟩
theorem len_bd {b : Br} (h : BOk b) : -2000000000000 ≤ b.len ∧ b.len ≤ 2000000000000 := by
  obtain ⟨h1, h2, h3, h4⟩ := h; unfold Br.len; omega

theorem fitsD_mono {p q : List Br} {c c' : Int} (h : c ≤ c') (i k : Nat) (hf : fitsD p q c i k = true) : fitsD p q c' i k = true := by
  unfold fitsD at *
  split
  · rename_i h1; rw [dif_pos h1] at hf; have := of_decide_eq_true hf; exact decide_eq_true (by omega)
  · rename_i h1
    rw [dif_neg h1] at hf
    split
    · rename_i h2; rw [dif_pos h2] at hf; have := of_decide_eq_true hf; exact decide_eq_true (by omega)
    · rename_i h2
      rw [dif_neg h2] at hf
      split
      · rename_i h3; rw [dif_pos h3] at hf; have := of_decide_eq_true hf; exact decide_eq_true (by omega)
      · rfl
/-- At a cost that no length passes everyone has a place of his own. -/
theorem pos_max (p q : List Br) (c : Int) (hp : ∀ b ∈ p, b.len ≤ c) (hq : ∀ b ∈ q, b.len ≤ c) : Pos (fitsD p q c) (p.length + q.length) := by
  refine ⟨(List.range q.length).map (fun k => ((p.length + k : Nat) : Int)) ++ (List.range p.length).map (fun k : Nat => (k : Int)), by simp; omega, fun k hk => ?_, fun x hx => ?_⟩
  · right
    rw [List.getElem_append]
    split
    · rename_i h1
      have h1' : k < q.length := by simpa using h1
      refine ⟨p.length + k, by simp, by omega, ?_⟩
      unfold fitsD
      rw [dif_neg (by omega), dif_neg (by omega), dif_pos h1']
      exact decide_eq_true (hq _ (List.getElem_mem h1'))
    · rename_i h1
      have h1' : q.length ≤ k := by simpa using h1
      have h2' : k - q.length < p.length := by simp at hk; omega
      refine ⟨k - q.length, by simp, by omega, ?_⟩
      unfold fitsD
      rw [dif_neg (by omega), dif_pos h2']
      exact decide_eq_true (hp _ (List.getElem_mem h2'))
  · have hn : ((List.range q.length).map (fun k => ((p.length + k : Nat) : Int)) ++ (List.range p.length).map (fun k : Nat => (k : Int))).Nodup := by
      refine List.nodup_append.2 ⟨List.pairwise_map.2 (List.nodup_range.imp fun h e => h (by omega)), List.pairwise_map.2 (List.nodup_range.imp fun h e => h (by omega)), fun a ha b hb e => ?_⟩
      obtain ⟨i, hi, rfl⟩ := List.mem_map.1 ha
      obtain ⟨j, hj, rfl⟩ := List.mem_map.1 hb
      simp at hi hj; omega
    have hm : (x : Int) ∈ (List.range q.length).map (fun k => ((p.length + k : Nat) : Int)) ++ (List.range p.length).map (fun k : Nat => (k : Int)) := by
      rw [List.mem_append]
      rcases Nat.lt_or_ge x p.length with h | h
      · exact .inr (List.mem_map.2 ⟨x, by simpa using h, rfl⟩)
      · exact .inl (List.mem_map.2 ⟨x - p.length, by simp; omega, by simp; omega⟩)
    have h1 := List.nodup_iff_count.1 hn (x : Int)
    have h2 := List.count_pos_iff.2 hm
    omega
/-- The least of the costs at which everyone has a partner. -/
def IsDist (p q : List Br) (L d : Int) : Prop := d ∈ costsOf p q L ∧ L ≤ d ∧ Pos (fitsD p q d) (p.length + q.length) ∧ ∀ c ∈ costsOf p q L, L ≤ c → Pos (fitsD p q c) (p.length + q.length) → d ≤ c
theorem tried_mem (p q : List Br) (L c : Int) : c ∈ tried p q L ↔ c ∈ costsOf p q L ∧ L ≤ c := by
  unfold tried
  rw [compact_mem, List.mem_filter, (isort_perm _).mem_iff]; simp
theorem tried_sorted (p q : List Br) (L : Int) : (tried p q L).Pairwise (· ≤ ·) := by
  unfold tried
  exact ((isort_sorted _).filter _).sublist (compact_sublist _)
theorem costs_len (p q : List Br) (L : Int) : (∀ b ∈ p, b.len ∈ costsOf p q L) ∧ (∀ b ∈ q, b.len ∈ costsOf p q L) := by
  unfold costsOf
  constructor
  · intro b hb
    refine List.mem_append_left _ (List.mem_cons_of_mem _ (List.mem_flatMap.2 ⟨b, hb, by simp⟩))
  · intro b hb
    exact List.mem_append_right _ (List.mem_map.2 ⟨b, hb, rfl⟩)
theorem sorted_get {l : List Int} (h : l.Pairwise (· ≤ ·)) {i j : Nat} (hij : i ≤ j) (hj : j < l.length) : l[i]'(by omega) ≤ l[j] := by
  rcases Nat.lt_or_ge i j with h1 | h1
  · exact List.pairwise_iff_getElem.1 h i j (by omega) hj h1
  · have : i = j := by omega
    subst this; exact Int.le_refl _

theorem distance_ok (la lb : List Br) (va vb : Value) (dim : Int) (h : Hp) (hRa : RdL cBr 6 h [] va la) (hRb : RdL cBr 6 h [] vb lb) (hla : la.length ≤ 10000) (hlb : lb.length ≤ 10000) (hA : ∀ b ∈ la, BOk b) (hB : ∀ b ∈ lb, BOk b) :
    FnT Try.prog 12 #[va, vb, .int .i64 dim] h [] (fun r _ _ => ∃ (d : Int) (e : Bool), r = .tuple #[.int .i64 d, .bool e] ∧ ((birthsOf dim la).length ≠ (birthsOf dim lb).length → d = 0 ∧ e = false) ∧ ((birthsOf dim la).length = (birthsOf dim lb).length → e = true ∧ IsDist (la.filter (Br.finIn dim)) (lb.filter (Br.finIn dim)) (leastOf ((birthsOf dim la).zip (birthsOf dim lb))) d)) := by
  refine fn_enter Try.func12 Try.ntmps12 rfl rfl (fun w0 hw0 => ?_)
  simp only [argS]
  refine ws_seq ?_
  refine ws_region ?_
  refine wl_box [_] rfl rfl (by first | rfl | exact Rd.cells ‹_› | exact (RdL.rd ‹_›).cells) rfl rfl rfl (fun g5 => ?_)
  refine wl_freezeB (fun h1 l1 s5 => ?_)
  have c5 : Cell h1 [] ⟨g5, 0, none⟩ (.int .i64 dim) := s5.at0 rfl
  have hRa1 := hRa.up l1
  have hRb1 := hRb.up l1
  refine wl_x (ox_assign rfl rfl) rfl rfl rfl ?_
  refine wl_x (ox_assign rfl rfl) rfl rfl rfl ?_
  refine wl_nil ?_
  refine nx_then ?_
  refine ws_seq ?_
  refine ws_region ?_
  refine wl_x (ox_makeFunc rfl rfl rfl) rfl rfl rfl ?_
  refine wl_x (ox_assign rfl rfl) rfl rfl rfl ?_
  refine wl_nil ?_
  refine nx_then ?_
  refine ws_seq ?_
  refine ws_region ?_
  refine wl_x (ox_move rfl rfl) rfl rfl rfl ?_
  refine wl_x (ox_move rfl rfl) rfl rfl rfl ?_
  refine wl_callv_ (pre := []) rfl rfl Try.call25 rfl (births_ok la va g5 dim h1 hRa1 (by omega) c5) rfl rfl rfl rfl (fun vx h2 _ l2 hL => ?_)
  obtain ⟨rfl, hRx⟩ := hL
  refine wl_x (ox_move rfl rfl) rfl rfl rfl ?_
  refine wl_x (ox_move rfl rfl) rfl rfl rfl ?_
  refine wl_callv_ (pre := []) rfl rfl Try.call25 rfl (births_ok lb vb g5 dim h2 (hRb1.up l2) (by omega) (c5.le l2)) rfl rfl rfl rfl (fun vy h3 _ l3 hL => ?_)
  obtain ⟨rfl, hRy⟩ := hL
  have hRx := hRx.up l3
  have hxb := birthsOf_bd dim la hA
  have hyb := birthsOf_bd dim lb hB
  have hxl := birthsOf_len dim la
  have hyl := birthsOf_len dim lb
  generalize hX : birthsOf dim la = X at hRx hxb hxl ⊢
  generalize hY : birthsOf dim lb = Y at hRy hyb hyl ⊢
  have c5 := c5.le (Hp.le_trans l2 l3)
  have hRa1 := hRa1.up (Hp.le_trans l2 l3)
  have hRb1 := hRb1.up (Hp.le_trans l2 l3)
  clear s5 l1 hRa hRb l2 l3
  refine wl_x (ox_assign rfl rfl) rfl rfl rfl ?_
  refine wl_x (ox_assign rfl rfl) rfl rfl rfl ?_
  refine wl_nil ?_
  refine nx_then ?_
  refine ws_seq ?_
  refine ws_seq ?_
  refine ws_region ?_
  refine wl_x (ox_move rfl rfl) rfl rfl rfl ?_
  first | refine wl_x (ox_len (ty := 23) rfl Try.underlying23 rfl) rfl rfl rfl ?_ | refine wl_x (ox_lenR hRx.rd.any rfl Try.underlying23 rfl) rfl rfl rfl ?_ | refine wl_x (ox_lenR hRy.rd.any rfl Try.underlying23 rfl) rfl rfl rfl ?_
  refine wl_x (ox_move rfl rfl) rfl rfl rfl ?_
  first | refine wl_x (ox_len (ty := 23) rfl Try.underlying23 rfl) rfl rfl rfl ?_ | refine wl_x (ox_lenR hRx.rd.any rfl Try.underlying23 rfl) rfl rfl rfl ?_ | refine wl_x (ox_lenR hRy.rd.any rfl Try.underlying23 rfl) rfl rfl rfl ?_
  refine wl_x (ox_nei rfl rfl rfl) rfl rfl rfl ?_
  refine wl_nil ?_
  refine nx_then ?_
  have hZ : ∀ p ∈ X.zip Y, iabs (p.1 - p.2) ≤ 2000000000000 := fun p hp => by
    have h1 := hxb _ (List.of_mem_zip hp).1
    have h2 := hyb _ (List.of_mem_zip hp).2
    unfold iabs; omega
  refine ws_if rfl (fun hne => ?_) (fun hne => ?_)
  · skip
    refine ws_seq ?_
    refine ws_region ?_
    refine wl_x (ox_assign rfl rfl) rfl rfl rfl ?_
    refine wl_x (ox_assign rfl rfl) rfl rfl rfl ?_
    refine wl_nil ?_
    refine nx_then ?_
    refine ws_ret ?_
    refine nx_then_ret ?_
    exact nx_ret2 rfl rfl rfl (⟨0, false, rfl, fun _ => ⟨rfl, rfl⟩, fun h => absurd h (by omega)⟩)
  · skip
    have hlen : X.length = Y.length := by omega
    refine ws_skip ?_
    refine nx_then ?_
    refine ws_seq ?_
    refine ws_region ?_
    refine wl_alloc [.int .i64 0] rfl el3 rfl rfl rfl rfl (fun g11 => ?_)
    first | refine wl_storeAt 0 0 rfl el3 rfl rfl (by first | rfl | exact Rd.one ‹_› | exact (RdL.rd ‹_›).one) rfl rfl (by first | decide | (simp; done) | exact of_decide_eq_true rfl | (simp; omega)) rfl rfl ?_ | refine wl_storeAt 1 0 rfl el3 rfl rfl (by first | rfl | exact Rd.one ‹_› | exact (RdL.rd ‹_›).one) rfl rfl (by first | decide | (simp; done) | exact of_decide_eq_true rfl | (simp; omega)) rfl rfl ?_ | refine wl_storeAt 2 0 rfl el3 rfl rfl (by first | rfl | exact Rd.one ‹_› | exact (RdL.rd ‹_›).one) rfl rfl (by first | decide | (simp; done) | exact of_decide_eq_true rfl | (simp; omega)) rfl rfl ?_ | refine wl_storeAt 3 0 rfl el3 rfl rfl (by first | rfl | exact Rd.one ‹_› | exact (RdL.rd ‹_›).one) rfl rfl (by first | decide | (simp; done) | exact of_decide_eq_true rfl | (simp; omega)) rfl rfl ?_ | refine wl_storeAt 4 0 rfl el3 rfl rfl (by first | rfl | exact Rd.one ‹_› | exact (RdL.rd ‹_›).one) rfl rfl (by first | decide | (simp; done) | exact of_decide_eq_true rfl | (simp; omega)) rfl rfl ?_
    refine wl_nil ?_
    refine nx_then ?_
    refine ws_seq ?_
    refine ws_seq ?_
    refine ws_region ?_
    refine wl_x (ox_move rfl rfl) rfl rfl rfl ?_
    first | refine wl_x (ox_len (ty := 23) rfl Try.underlying23 rfl) rfl rfl rfl ?_ | refine wl_x (ox_lenR hRx.rd.any rfl Try.underlying23 rfl) rfl rfl rfl ?_ | refine wl_x (ox_lenR hRy.rd.any rfl Try.underlying23 rfl) rfl rfl rfl ?_
    refine wl_x (ox_move rfl rfl) rfl rfl rfl ?_
    refine wl_nil ?_
    refine nx_then ?_
    refine ws_block ?_
    refine ws_loop (fun q s h' ms' => ∃ (k : Nat), q = X.length - k ∧ s = [(0, va), (1, vb), (5, .pointer (some ⟨g5, 0, none⟩)), (9, vx), (10, vy), (11, .pointer (some ⟨g11, 0, none⟩)), (39, .int .i64 X.length), (40, .int .i64 k)] ∧ h3 = h' ∧ ms' = [Blk g11 3 [.int .i64 (leastOf ((X.zip Y).take k))]] ∧ k ≤ X.length)
      (X.length - 0) _ ⟨0, rfl, rfl, rfl, rfl, by omega⟩ (by repeat (first | exact trivial | refine ⟨rfl, ?_⟩)) ?_
    rintro q s h' ms' ⟨k, rfl, rfl, rfl, rfl, hk⟩
    refine ws_seq ?_
    refine ws_region ?_
    refine wl_x (ox_lss rfl rfl rfl) rfl rfl rfl ?_
    refine wl_nil ?_
    refine nx_then ?_
    refine ws_seq ?_
    refine ws_if rfl (fun hlt => ?_) (fun hlt => ?_)
    · skip
      have hkx : k < X.length := by omega
      have hky : k < Y.length := by omega
      have hkz : k < (X.zip Y).length := by simp; omega
      have b1 := hxb _ (List.getElem_mem hkx)
      have b2 := hyb _ (List.getElem_mem hky)
      have b3 := leastOf_bd ((X.zip Y).take k) fun p hp => hZ p (List.mem_of_mem_take hp)
      have b4 : iabs (X[k] - Y[k]) ≤ 2000000000000 ∧ 0 ≤ iabs (X[k] - Y[k]) := by unfold iabs; omega
      have hst : (X.zip Y).take (k + 1) = (X.zip Y).take k ++ [(X[k], Y[k])] := by rw [List.take_succ_eq_append_getElem hkz]; simp
      refine ws_skip ?_
      refine nx_then ?_
      refine ws_seq ?_
      refine ws_block ?_
      refine ws_seq ?_
      refine ws_region ?_
      refine wl_x (ox_move rfl rfl) rfl rfl rfl ?_
      refine wl_x (ox_assign rfl rfl) rfl rfl rfl ?_
      refine wl_nil ?_
      refine nx_then ?_
      refine ws_draw 12 fol (by kernel_rfl) rfl ?_
      simp only [List.take_succ_cons, List.take_zero, List.drop_succ_cons, List.drop_zero, List.take_nil, List.drop_nil]
      refine wr_x (ox_load rfl Try.underlying3 rfl rfl (by first | exact Cell.blk0 0 rfl rfl | exact Cell.blk0 1 rfl rfl | exact Cell.blk0 2 rfl rfl | exact Cell.blk0 3 rfl rfl | exact Cell.blk0 4 rfl rfl | exact hRx.any.cell0 hkx rfl | exact hRy.any.cell0 hky rfl)) rfl rfl ?_
      refine wr_x (ox_move rfl rfl) rfl rfl ?_
      refine wr_x (ox_move rfl rfl) rfl rfl ?_
      first | refine wr_x (ox_index _ rfl Try.underlying23 el3 rfl rfl rfl (by omega)) rfl rfl ?_ | refine wr_x (ox_indexR _ hRx.rd.any rfl Try.underlying23 el3 rfl rfl rfl (by omega)) rfl rfl ?_ | refine wr_x (ox_indexR _ hRy.rd.any rfl Try.underlying23 el3 rfl rfl rfl (by omega)) rfl rfl ?_
      refine wr_x (ox_load rfl Try.underlying3 rfl rfl (by first | exact hRx.any.cell0 hkx rfl | exact hRy.any.cell0 hky rfl)) rfl rfl ?_
      refine wr_x (ox_move rfl rfl) rfl rfl ?_
      refine wr_x (ox_move rfl rfl) rfl rfl ?_
      first | refine wr_x (ox_index _ rfl Try.underlying23 el3 rfl rfl rfl (by omega)) rfl rfl ?_ | refine wr_x (ox_indexR _ hRx.rd.any rfl Try.underlying23 el3 rfl rfl rfl (by omega)) rfl rfl ?_ | refine wr_x (ox_indexR _ hRy.rd.any rfl Try.underlying23 el3 rfl rfl rfl (by omega)) rfl rfl ?_
      refine wr_x (ox_load rfl Try.underlying3 rfl rfl (by first | exact hRx.any.cell0 hkx rfl | exact hRy.any.cell0 hky rfl)) rfl rfl ?_
      refine wr_x (ox_sub rfl rfl rfl (by omega)) rfl rfl ?_
      refine wr_x (ox_call rfl Try.call29 rfl (abs_ok _ (by omega) _ _)) rfl rfl ?_
      refine wr_x (ox_mul rfl rfl rfl (by omega)) rfl rfl ?_
      refine wr_nil ?_
      refine wl_x (ox_max rfl rfl rfl) rfl rfl rfl ?_
      first | refine wl_storeAt 0 0 rfl el3 rfl rfl (by first | rfl | exact Rd.one ‹_› | exact (RdL.rd ‹_›).one) rfl rfl (by first | decide | (simp; done) | exact of_decide_eq_true rfl | (simp; omega)) rfl rfl ?_ | refine wl_storeAt 1 0 rfl el3 rfl rfl (by first | rfl | exact Rd.one ‹_› | exact (RdL.rd ‹_›).one) rfl rfl (by first | decide | (simp; done) | exact of_decide_eq_true rfl | (simp; omega)) rfl rfl ?_ | refine wl_storeAt 2 0 rfl el3 rfl rfl (by first | rfl | exact Rd.one ‹_› | exact (RdL.rd ‹_›).one) rfl rfl (by first | decide | (simp; done) | exact of_decide_eq_true rfl | (simp; omega)) rfl rfl ?_ | refine wl_storeAt 3 0 rfl el3 rfl rfl (by first | rfl | exact Rd.one ‹_› | exact (RdL.rd ‹_›).one) rfl rfl (by first | decide | (simp; done) | exact of_decide_eq_true rfl | (simp; omega)) rfl rfl ?_ | refine wl_storeAt 4 0 rfl el3 rfl rfl (by first | rfl | exact Rd.one ‹_› | exact (RdL.rd ‹_›).one) rfl rfl (by first | decide | (simp; done) | exact of_decide_eq_true rfl | (simp; omega)) rfl rfl ?_
      refine wl_nil ?_
      refine nx_block ?_
      refine nx_then ?_
      refine ws_region ?_
      refine wl_x (ox_add rfl rfl rfl (by omega)) rfl rfl rfl ?_
      refine wl_x (ox_move rfl rfl) rfl rfl rfl ?_
      refine wl_nil ?_
      refine nx_round (X.length - (k + 1)) _ (by omega) ⟨k + 1, rfl, rfl, rfl, by rw [hst, leastOf_snoc]; rfl, by omega⟩ (by repeat (first | exact trivial | refine ⟨rfl, ?_⟩))
    · skip
      have hkX : k = X.length := by omega
      have htk : (X.zip Y).take k = X.zip Y := List.take_of_length_le (by simp; omega)
      rw [htk]
      have b3 := leastOf_bd (X.zip Y) hZ
      generalize leastOf (X.zip Y) = L at b3 ⊢
      refine ws_exit ?_
      refine nx_then_exit ?_
      refine nx_then_exit ?_
      refine nx_block_exit ?_
      refine nx_then ?_
      refine ws_freezeB (fun h4 l4 s11 => ?_)
      have c11 : Cell h4 [] ⟨g11, 0, none⟩ (.int .i64 L) := s11.at0 rfl
      have c5 := c5.le l4
      have hRa1 := hRa1.up l4
      have hRb1 := hRb1.up l4
      refine ws_seq ?_
      refine ws_region ?_
      refine wl_x (ox_makeFunc rfl rfl rfl) rfl rfl rfl ?_
      refine wl_x (ox_assign rfl rfl) rfl rfl rfl ?_
      refine wl_nil ?_
      refine nx_then ?_
      refine ws_seq ?_
      refine ws_region ?_
      refine wl_x (ox_move rfl rfl) rfl rfl rfl ?_
      refine wl_x (ox_move rfl rfl) rfl rfl rfl ?_
      refine wl_call rfl Try.call26 rfl (filtered_ok la va 30 [Value.pointer (some ⟨g5, 0, none⟩)] (Br.finIn dim) h4 hRa1 (by omega) Try.call30 (fun b _ ms => finIn_ok b g5 dim h4 (fun _ => c5.any) ms)) rfl rfl rfl (fun vp h5 _ l5 hL => ?_)
      obtain ⟨rfl, hRp⟩ := hL
      refine wl_x (ox_move rfl rfl) rfl rfl rfl ?_
      refine wl_x (ox_move rfl rfl) rfl rfl rfl ?_
      refine wl_call rfl Try.call26 rfl (filtered_ok lb vb 30 [Value.pointer (some ⟨g5, 0, none⟩)] (Br.finIn dim) h5 (hRb1.up l5) (by omega) Try.call30 (fun b _ ms => finIn_ok b g5 dim h5 (fun _ => (c5.le l5).any) ms)) rfl rfl rfl (fun vq h6 _ l6 hL => ?_)
      obtain ⟨rfl, hRq⟩ := hL
      have hRp := hRp.up l6
      have c11 := c11.le (Hp.le_trans l5 l6)
      have hp1 : (la.filter (Br.finIn dim)).length ≤ la.length := List.length_filter_le _ _
      have hq1 : (lb.filter (Br.finIn dim)).length ≤ lb.length := List.length_filter_le _ _
      have hpA : ∀ b ∈ la.filter (Br.finIn dim), BOk b := fun b hb => hA b (List.mem_filter.1 hb).1
      have hqB : ∀ b ∈ lb.filter (Br.finIn dim), BOk b := fun b hb => hB b (List.mem_filter.1 hb).1
      generalize la.filter (Br.finIn dim) = p at hRp hp1 hpA ⊢
      generalize lb.filter (Br.finIn dim) = q at hRq hq1 hqB ⊢
      refine wl_x (ox_assign rfl rfl) rfl rfl rfl ?_
      refine wl_x (ox_assign rfl rfl) rfl rfl rfl ?_
      refine wl_nil ?_
      refine nx_then ?_
      refine ws_seq ?_
      refine ws_region ?_
      refine wl_x (ox_load rfl Try.underlying3 rfl rfl (by first | exact Cell.blk0 0 rfl rfl | exact Cell.blk0 1 rfl rfl | exact Cell.blk0 2 rfl rfl | exact Cell.blk0 3 rfl rfl | exact Cell.blk0 4 rfl rfl | exact c11.any)) rfl rfl rfl ?_
      refine wl_buildSlice1 [_] rfl Try.underlying23 el3 rfl (by first | rfl | exact (hRp.rd.any).cells | exact (hRq.rd.any).cells | exact Rd.cells ‹_› | exact (RdL.rd ‹_›).cells) rfl rfl (by omega) rfl rfl rfl (fun g65 => ?_)
      refine wl_x (ox_assign rfl rfl) rfl rfl rfl ?_
      refine wl_nil ?_
      refine nx_then ?_
      refine ws_seq ?_
      refine ws_seq ?_
      refine ws_region ?_
      refine wl_x (ox_move rfl rfl) rfl rfl rfl ?_
      first | refine wl_x (ox_len (ty := 25) rfl Try.underlying25 rfl) rfl rfl rfl ?_ | refine wl_x (ox_lenR hRp.rd.any rfl Try.underlying25 rfl) rfl rfl rfl ?_ | refine wl_x (ox_lenR hRq.rd.any rfl Try.underlying25 rfl) rfl rfl rfl ?_
      refine wl_x (ox_move rfl rfl) rfl rfl rfl ?_
      refine wl_nil ?_
      refine nx_then ?_
      refine ws_block ?_
      refine ws_loop (fun n s h' ms' => ∃ (k : Nat) (v : Value) (m : Hp) (C : List Int), n = p.length - k ∧ s = [(11, .pointer (some ⟨g11, 0, none⟩)), (14, vp), (15, vq), (16, v), (66, vp), (67, .int .i64 p.length), (68, .int .i64 k)] ∧ h6 = h' ∧ ms' = [m] ∧ k ≤ p.length ∧ OwnL cI 1 3 m v C ∧ C = L :: ((p.take k).flatMap fun x => x.len :: q.map x.apart) ∧ C.length ≤ 1 + k * 20000)
        (p.length - 0) _ ⟨0, _, _, [L], rfl, rfl, rfl, rfl, by omega, own_one _ _, rfl, by simp⟩ (by repeat (first | exact trivial | refine ⟨rfl, ?_⟩)) ?_
      rintro n s h' ms' ⟨k, v, m, C, rfl, rfl, rfl, rfl, hk, hO, hC, hCl⟩
      refine ws_seq ?_
      refine ws_region ?_
      refine wl_x (ox_lss rfl rfl rfl) rfl rfl rfl ?_
      refine wl_nil ?_
      refine nx_then ?_
      refine ws_seq ?_
      refine ws_if rfl (fun hltp => ?_) (fun hltp => ?_)
      · skip
        have hkp : k < p.length := by omega
        have hbk := hpA _ (List.getElem_mem hkp)
        have hts : (p.take (k + 1)).flatMap (fun x => x.len :: q.map x.apart) = (p.take k).flatMap (fun x => x.len :: q.map x.apart) ++ (p[k].len :: q.map p[k].apart) := by
          rw [List.take_succ_eq_append_getElem hkp, List.flatMap_append]; simp
        refine ws_skip ?_
        refine nx_then ?_
        refine ws_seq ?_
        refine ws_block ?_
        refine ws_seq ?_
        refine ws_region ?_
        first | refine wl_x (ox_index _ rfl Try.underlying25 el40 rfl rfl rfl (by omega)) rfl rfl rfl ?_ | refine wl_x (ox_indexR _ hRp.rd.any rfl Try.underlying25 el40 rfl rfl rfl (by omega)) rfl rfl rfl ?_ | refine wl_x (ox_indexR _ hRq.rd.any rfl Try.underlying25 el40 rfl rfl rfl (by omega)) rfl rfl rfl ?_
        refine wl_x (ox_loadG rfl Try.underlying40 rfl el40 rfl rfl (by first | exact Seg.blk 0 rfl | exact hRp.any.seg hkp)) rfl rfl rfl ?_
        refine wl_alloc [.int .i64 0, .int .i64 0, .int .i64 0, .bool false, .int .i64 0, .int .i64 0] rfl el40 rfl rfl rfl rfl (fun g18 => ?_)
        first | refine wl_storeAll 0 _ rfl el40 rfl rfl rfl (by exact cBr_one _) rfl (by first | rfl | simp) (by first | rfl | simp) rfl rfl ?_ | refine wl_storeAll 1 _ rfl el40 rfl rfl rfl (by exact cBr_one _) rfl (by first | rfl | simp) (by first | rfl | simp) rfl rfl ?_ | refine wl_storeAll 2 _ rfl el40 rfl rfl rfl (by exact cBr_one _) rfl (by first | rfl | simp) (by first | rfl | simp) rfl rfl ?_ | refine wl_storeAll 3 _ rfl el40 rfl rfl rfl (by exact cBr_one _) rfl (by first | rfl | simp) (by first | rfl | simp) rfl rfl ?_ | refine wl_storeAll 4 _ rfl el40 rfl rfl rfl (by exact cBr_one _) rfl (by first | rfl | simp) (by first | rfl | simp) rfl rfl ?_
        refine wl_nil ?_
        refine nx_then ?_
        refine ws_seq ?_
        refine ws_region ?_
        refine wl_x (ox_move rfl rfl) rfl rfl rfl ?_
        refine wl_x (ox_loadG rfl Try.underlying40 rfl el40 rfl rfl (by first | exact Seg.blk 0 rfl | exact Seg.blk 1 rfl | exact Seg.blk 2 rfl | exact Seg.blk 3 rfl | exact Seg.blk 4 rfl | exact Seg.blk 0 rfl | exact hRp.any.seg hkp)) rfl rfl rfl ?_
        refine wl_x (ox_call rfl Try.call32 rfl (length_ok _ hbk _ _)) rfl rfl rfl ?_
        refine wl_buildSlice1 [_] rfl Try.underlying23 el3 rfl (by first | rfl | exact (hRp.rd.any).cells | exact (hRq.rd.any).cells | exact Rd.cells ‹_› | exact (RdL.rd ‹_›).cells) rfl rfl (by omega) rfl rfl rfl (fun g75 => ?_)
        refine wl_appendL 2 hO (RdL.one cI_len (List.Mem.head _) rfl) rfl Try.underlying23 el3 rfl (by omega) rfl rfl rfl cI_one (by simp; omega) (by simp; omega) rfl rfl rfl (fun v1 m1 hO1 => ?_)
        refine wl_x (ox_assign rfl rfl) rfl rfl rfl ?_
        refine wl_nil ?_
        refine nx_then ?_
        refine ws_seq ?_
        refine ws_region ?_
        refine wl_x (ox_move rfl rfl) rfl rfl rfl ?_
        first | refine wl_x (ox_len (ty := 25) rfl Try.underlying25 rfl) rfl rfl rfl ?_ | refine wl_x (ox_lenR hRp.rd.any rfl Try.underlying25 rfl) rfl rfl rfl ?_ | refine wl_x (ox_lenR hRq.rd.any rfl Try.underlying25 rfl) rfl rfl rfl ?_
        refine wl_x (ox_move rfl rfl) rfl rfl rfl ?_
        refine wl_nil ?_
        refine nx_then ?_
        refine ws_block ?_
        refine ws_drop ?_
        refine ws_loop (fun n s h' ms' => ∃ (j : Nat) (v : Value) (m : Hp) (D : List Int), n = q.length - j ∧ s = [(11, .pointer (some ⟨g11, 0, none⟩)), (14, vp), (15, vq), (16, v), (18, .pointer (some ⟨g18, 0, none⟩)), (66, vp), (67, .int .i64 p.length), (68, .int .i64 k), (77, vq), (78, .int .i64 q.length), (79, .int .i64 j)] ∧ h6 = h' ∧ ms' = [Blk g18 40 (cBr p[k]), m] ∧ j ≤ q.length ∧ OwnL cI 1 3 m v D ∧ D = C ++ p[k].len :: (q.take j).map p[k].apart ∧ D.length ≤ 2 + k * 20000 + j)
          (q.length - 0) _ ⟨0, _, m1, _, rfl, rfl, rfl, rfl, by omega, hO1, rfl, by simp; omega⟩ (by repeat (first | exact trivial | refine ⟨rfl, ?_⟩)) ?_
        clear hO hO1
        rintro n s h' ms' ⟨j, v, m, D, rfl, rfl, rfl, rfl, hj, hO, hD, hDl⟩
        refine ws_seq ?_
        refine ws_region ?_
        refine wl_x (ox_lss rfl rfl rfl) rfl rfl rfl ?_
        refine wl_nil ?_
        refine nx_then ?_
        refine ws_seq ?_
        refine ws_if rfl (fun hltq => ?_) (fun hltq => ?_)
        · skip
          have hjq : j < q.length := by omega
          have hbj := hqB _ (List.getElem_mem hjq)
          have htj := take_succ_map p[k].apart q j hjq
          refine ws_skip ?_
          refine nx_then ?_
          refine ws_seq ?_
          refine ws_block ?_
          refine ws_seq ?_
          refine ws_region ?_
          first | refine wl_x (ox_index _ rfl Try.underlying25 el40 rfl rfl rfl (by omega)) rfl rfl rfl ?_ | refine wl_x (ox_indexR _ hRp.rd.any rfl Try.underlying25 el40 rfl rfl rfl (by omega)) rfl rfl rfl ?_ | refine wl_x (ox_indexR _ hRq.rd.any rfl Try.underlying25 el40 rfl rfl rfl (by omega)) rfl rfl rfl ?_
          refine wl_x (ox_loadG rfl Try.underlying40 rfl el40 rfl rfl (by first | exact Seg.blk 0 rfl | exact Seg.blk 1 rfl | exact hRq.any.seg hjq)) rfl rfl rfl ?_
          refine wl_alloc [.int .i64 0, .int .i64 0, .int .i64 0, .bool false, .int .i64 0, .int .i64 0] rfl el40 rfl rfl rfl rfl (fun g20 => ?_)
          first | refine wl_storeAll 0 _ rfl el40 rfl rfl rfl (by exact cBr_one _) rfl (by first | rfl | simp) (by first | rfl | simp) rfl rfl ?_ | refine wl_storeAll 1 _ rfl el40 rfl rfl rfl (by exact cBr_one _) rfl (by first | rfl | simp) (by first | rfl | simp) rfl rfl ?_ | refine wl_storeAll 2 _ rfl el40 rfl rfl rfl (by exact cBr_one _) rfl (by first | rfl | simp) (by first | rfl | simp) rfl rfl ?_ | refine wl_storeAll 3 _ rfl el40 rfl rfl rfl (by exact cBr_one _) rfl (by first | rfl | simp) (by first | rfl | simp) rfl rfl ?_ | refine wl_storeAll 4 _ rfl el40 rfl rfl rfl (by exact cBr_one _) rfl (by first | rfl | simp) (by first | rfl | simp) rfl rfl ?_
          refine wl_nil ?_
          refine nx_then ?_
          refine ws_region ?_
          refine wl_x (ox_move rfl rfl) rfl rfl rfl ?_
          refine wl_x (ox_loadG rfl Try.underlying40 rfl el40 rfl rfl (by first | exact Seg.blk 0 rfl | exact Seg.blk 1 rfl | exact Seg.blk 2 rfl | exact Seg.blk 3 rfl | exact Seg.blk 4 rfl | exact Seg.blk (el := 40) (l := cBr p[k]) 1 rfl)) rfl rfl rfl ?_
          refine wl_x (ox_loadG rfl Try.underlying40 rfl el40 rfl rfl (by first | exact Seg.blk 0 rfl | exact Seg.blk 1 rfl | exact Seg.blk 2 rfl | exact Seg.blk 3 rfl | exact Seg.blk 4 rfl | exact Seg.blk (el := 40) (l := cBr q[j]) 0 rfl)) rfl rfl rfl ?_
          refine wl_x (ox_call rfl Try.call33 rfl (apart_ok _ _ hbk hbj _ _)) rfl rfl rfl ?_
          refine wl_buildSlice1 [_] rfl Try.underlying23 el3 rfl (by first | rfl | exact (hRp.rd.any).cells | exact (hRq.rd.any).cells | exact Rd.cells ‹_› | exact (RdL.rd ‹_›).cells) rfl rfl (by omega) rfl rfl rfl (fun g87 => ?_)
          refine wl_appendL 3 hO (RdL.one cI_len (List.Mem.head _) rfl) rfl Try.underlying23 el3 rfl (by omega) rfl rfl rfl cI_one (by simp; omega) (by simp; omega) rfl rfl rfl (fun v1 m1 hO1 => ?_)
          refine wl_x (ox_assign rfl rfl) rfl rfl rfl ?_
          refine wl_nil ?_
          refine nx_block ?_
          refine nx_then ?_
          refine ws_region ?_
          refine wl_x (ox_add rfl rfl rfl (by omega)) rfl rfl rfl ?_
          refine wl_x (ox_move rfl rfl) rfl rfl rfl ?_
          refine wl_nil ?_
          refine nx_drop (nx_drop ?_)
          refine nx_round (q.length - (j + 1)) _ (by omega) ⟨j + 1, v1, m1, _, rfl, rfl, rfl, rfl, by omega, hO1, by rw [hD, htj]; simp, by simp; omega⟩ (by repeat (first | exact trivial | refine ⟨rfl, ?_⟩))
        · skip
          rw [List.take_of_length_le (by omega)] at hD
          refine ws_exit ?_
          refine nx_then_exit ?_
          refine nx_then_exit ?_
          refine nx_block_exit ?_
          refine nx_block ?_
          refine nx_then ?_
          refine ws_region ?_
          refine wl_x (ox_add rfl rfl rfl (by omega)) rfl rfl rfl ?_
          refine wl_x (ox_move rfl rfl) rfl rfl rfl ?_
          refine wl_nil ?_
          refine nx_drop ?_
          refine nx_round (p.length - (k + 1)) _ (by omega) ⟨k + 1, v, m, D, rfl, rfl, rfl, rfl, by omega, hO, by rw [hD, hC, hts]; simp, by omega⟩ (by repeat (first | exact trivial | refine ⟨rfl, ?_⟩))
      · skip
        have hkP : k = p.length := by omega
        rw [List.take_of_length_le (by omega)] at hC
        refine ws_exit ?_
        refine nx_then_exit ?_
        refine nx_then_exit ?_
        refine nx_block_exit ?_
        refine nx_then ?_
        refine ws_seq ?_
        refine ws_seq ?_
        refine ws_region ?_
        refine wl_x (ox_move rfl rfl) rfl rfl rfl ?_
        first | refine wl_x (ox_len (ty := 25) rfl Try.underlying25 rfl) rfl rfl rfl ?_ | refine wl_x (ox_lenR hRp.rd.any rfl Try.underlying25 rfl) rfl rfl rfl ?_ | refine wl_x (ox_lenR hRq.rd.any rfl Try.underlying25 rfl) rfl rfl rfl ?_
        refine wl_x (ox_move rfl rfl) rfl rfl rfl ?_
        refine wl_nil ?_
        refine nx_then ?_
        refine ws_block ?_
        refine ws_loop (fun n s h' ms' => ∃ (j : Nat) (v : Value) (m : Hp) (D : List Int), n = q.length - j ∧ s = [(11, .pointer (some ⟨g11, 0, none⟩)), (14, vp), (15, vq), (16, v), (91, vq), (92, .int .i64 q.length), (93, .int .i64 j)] ∧ h6 = h' ∧ ms' = [m] ∧ j ≤ q.length ∧ OwnL cI 1 3 m v D ∧ D = C ++ (q.take j).map Br.len ∧ D.length ≤ 1 + k * 20000 + j)
          (q.length - 0) _ ⟨0, v, m, C, rfl, rfl, rfl, rfl, by omega, hO, by simp, by omega⟩ (by repeat (first | exact trivial | refine ⟨rfl, ?_⟩)) ?_
        clear hO
        rintro n s h' ms' ⟨j, v, m, D, rfl, rfl, rfl, rfl, hj, hO, hD, hDl⟩
        refine ws_seq ?_
        refine ws_region ?_
        refine wl_x (ox_lss rfl rfl rfl) rfl rfl rfl ?_
        refine wl_nil ?_
        refine nx_then ?_
        refine ws_seq ?_
        refine ws_if rfl (fun hltq => ?_) (fun hltq => ?_)
        · skip
          have hjq : j < q.length := by omega
          have hbj := hqB _ (List.getElem_mem hjq)
          have htj := take_succ_map Br.len q j hjq
          refine ws_skip ?_
          refine nx_then ?_
          refine ws_seq ?_
          refine ws_block ?_
          refine ws_seq ?_
          refine ws_region ?_
          first | refine wl_x (ox_index _ rfl Try.underlying25 el40 rfl rfl rfl (by omega)) rfl rfl rfl ?_ | refine wl_x (ox_indexR _ hRp.rd.any rfl Try.underlying25 el40 rfl rfl rfl (by omega)) rfl rfl rfl ?_ | refine wl_x (ox_indexR _ hRq.rd.any rfl Try.underlying25 el40 rfl rfl rfl (by omega)) rfl rfl rfl ?_
          refine wl_x (ox_loadG rfl Try.underlying40 rfl el40 rfl rfl (by first | exact Seg.blk 0 rfl | exact hRq.any.seg hjq)) rfl rfl rfl ?_
          refine wl_alloc [.int .i64 0, .int .i64 0, .int .i64 0, .bool false, .int .i64 0, .int .i64 0] rfl el40 rfl rfl rfl rfl (fun g22 => ?_)
          first | refine wl_storeAll 0 _ rfl el40 rfl rfl rfl (by exact cBr_one _) rfl (by first | rfl | simp) (by first | rfl | simp) rfl rfl ?_ | refine wl_storeAll 1 _ rfl el40 rfl rfl rfl (by exact cBr_one _) rfl (by first | rfl | simp) (by first | rfl | simp) rfl rfl ?_ | refine wl_storeAll 2 _ rfl el40 rfl rfl rfl (by exact cBr_one _) rfl (by first | rfl | simp) (by first | rfl | simp) rfl rfl ?_ | refine wl_storeAll 3 _ rfl el40 rfl rfl rfl (by exact cBr_one _) rfl (by first | rfl | simp) (by first | rfl | simp) rfl rfl ?_ | refine wl_storeAll 4 _ rfl el40 rfl rfl rfl (by exact cBr_one _) rfl (by first | rfl | simp) (by first | rfl | simp) rfl rfl ?_
          refine wl_nil ?_
          refine nx_then ?_
          refine ws_region ?_
          refine wl_x (ox_move rfl rfl) rfl rfl rfl ?_
          refine wl_x (ox_loadG rfl Try.underlying40 rfl el40 rfl rfl (by first | exact Seg.blk 0 rfl | exact Seg.blk 1 rfl | exact Seg.blk 2 rfl | exact Seg.blk 3 rfl | exact Seg.blk 4 rfl | exact Seg.blk 0 rfl | exact hRq.any.seg hjq)) rfl rfl rfl ?_
          refine wl_x (ox_call rfl Try.call32 rfl (length_ok _ hbj _ _)) rfl rfl rfl ?_
          refine wl_buildSlice1 [_] rfl Try.underlying23 el3 rfl (by first | rfl | exact (hRp.rd.any).cells | exact (hRq.rd.any).cells | exact Rd.cells ‹_› | exact (RdL.rd ‹_›).cells) rfl rfl (by omega) rfl rfl rfl (fun g100 => ?_)
          refine wl_appendL 2 hO (RdL.one cI_len (List.Mem.head _) rfl) rfl Try.underlying23 el3 rfl (by omega) rfl rfl rfl cI_one (by simp; omega) (by simp; omega) rfl rfl rfl (fun v1 m1 hO1 => ?_)
          refine wl_x (ox_assign rfl rfl) rfl rfl rfl ?_
          refine wl_nil ?_
          refine nx_block ?_
          refine nx_then ?_
          refine ws_region ?_
          refine wl_x (ox_add rfl rfl rfl (by omega)) rfl rfl rfl ?_
          refine wl_x (ox_move rfl rfl) rfl rfl rfl ?_
          refine wl_nil ?_
          refine nx_drop (nx_drop ?_)
          refine nx_round (q.length - (j + 1)) _ (by omega) ⟨j + 1, v1, m1, _, rfl, rfl, rfl, rfl, by omega, hO1, by rw [hD, htj]; simp, by simp; omega⟩ (by repeat (first | exact trivial | refine ⟨rfl, ?_⟩))
        · skip
          rw [List.take_of_length_le (by omega)] at hD
          have hDc : D = costsOf p q L := by rw [hD, hC]; rfl
          refine ws_exit ?_
          refine nx_then_exit ?_
          refine nx_then_exit ?_
          refine nx_block_exit ?_
          refine nx_then ?_
          refine ws_seq ?_
          refine ws_region ?_
          refine wl_x (ox_move rfl rfl) rfl rfl rfl ?_
          refine wl_call_ (pre := [m]) rfl Try.call28 rfl (sort_ok D v m hO (by omega) _) rfl rfl rfl rfl (fun _ _ _ _ hL => ?_)
          obtain ⟨rfl, m2, rfl, hO2⟩ := hL
          simp only [List.cons_append, List.nil_append, List.append_nil]
          have hsl : (isort D).length = D.length := (isort_perm D).length_eq
          refine wl_nil ?_
          refine nx_then ?_
          refine ws_freezeL hO2 (fun h7 l7 hRs => ?_)
          have c11 := c11.le l7
          refine ws_seq ?_
          refine ws_region ?_
          refine wl_x (ox_move rfl rfl) rfl rfl rfl ?_
          refine wl_x (ox_makeFunc rfl rfl rfl) rfl rfl rfl ?_
          refine wl_call rfl Try.call35 rfl (filteredI_ok (isort D) v 36 [Value.pointer (some ⟨g11, 0, none⟩)] (fun n => decide (L ≤ n)) h7 hRs (by omega) Try.call36 (fun b _ ms => geqL_ok b g11 L h7 (fun _ => c11.any) ms)) rfl rfl rfl (fun v17 _ _ _ hL => ?_)
          obtain ⟨rfl, m3, rfl, hO3⟩ := hL
          have hfl : ((isort D).filter fun n => decide (L ≤ n)).length ≤ (isort D).length := List.length_filter_le _ _
          refine wl_call_ (pre := [m3]) rfl Try.call34 rfl (compact_ok _ v17 m3 hO3 (by omega) _) rfl rfl rfl rfl (fun v18 _ _ _ hL => ?_)
          obtain ⟨rfl, m4, rfl, hO4⟩ := hL
          simp only [List.cons_append, List.nil_append, List.append_nil]
          have hT : Lib.compact ((isort D).filter fun n => decide (L ≤ n)) = tried p q L := by rw [hDc]; rfl
          rw [hT] at hO4
          have hTm := tried_mem p q L
          have hTs := tried_sorted p q L
          have hTu : (tried p q L).length ≤ D.length := by
            rw [← hT]; exact Nat.le_trans (compact_sublist _).length_le (by omega)
          generalize tried p q L = T at hO4 hTm hTs hTu
          have hLc : L ∈ costsOf p q L := by unfold costsOf; simp
          have hTl : 0 < T.length := List.length_pos_of_mem ((hTm L).2 ⟨hLc, Int.le_refl _⟩)
          obtain ⟨cl1, cl2⟩ := costs_len p q L
          have hmax : ∀ b : Int, b ∈ costsOf p q L → b ≤ T[T.length - 1] := fun b hb => by
            rcases Int.lt_or_le b L with h1 | h1
            · have := ((hTm _).1 (List.getElem_mem (show T.length - 1 < T.length by omega))).2
              omega
            · obtain ⟨j, hj, e⟩ := List.getElem_of_mem ((hTm b).2 ⟨hb, h1⟩)
              rw [← e]
              exact sorted_get hTs (by omega) (by omega)
          have hlast : Pos (fitsD p q T[T.length - 1]) (p.length + q.length) := pos_max p q _ (fun b hb => hmax _ (cl1 b hb)) (fun b hb => hmax _ (cl2 b hb))
          have hdone : ∀ d, d ∈ T → Pos (fitsD p q d) (p.length + q.length) → (∀ c ∈ T, Pos (fitsD p q c) (p.length + q.length) → d ≤ c) → IsDist p q L d := fun d h1 h2 h3 =>
            ⟨((hTm d).1 h1).1, ((hTm d).1 h1).2, h2, fun c h4 h5 h6 => h3 c ((hTm c).2 ⟨h4, h5⟩) h6⟩
          clear hmax cl1 cl2 hT hTm hLc
          refine wl_x (ox_assign rfl rfl) rfl rfl rfl ?_
          refine wl_nil ?_
          refine nx_then ?_
          refine ws_freezeL hO4 (fun h8 l8 hRT => ?_)
          have hRp := hRp.up (Hp.le_trans l7 l8)
          have hRq := hRq.up (Hp.le_trans l7 l8)
          refine ws_seq ?_
          refine ws_region ?_
          refine wl_x (ox_move rfl rfl) rfl rfl rfl ?_
          first | refine wl_x (ox_len (ty := 23) rfl Try.underlying23 rfl) rfl rfl rfl ?_ | refine wl_x (ox_lenR hRT.rd rfl Try.underlying23 rfl) rfl rfl rfl ?_
          refine wl_x (ox_sub rfl rfl rfl (by omega)) rfl rfl rfl ?_
          refine wl_x (ox_assign rfl rfl) rfl rfl rfl ?_
          refine wl_x (ox_assign rfl rfl) rfl rfl rfl ?_
          refine wl_nil ?_
          refine nx_then ?_
          refine ws_seq ?_
          refine ws_block ?_
          refine ws_loop (fun n s h' ms' => ∃ (lo hi : Nat) (x y : Int) (hhi : hi < T.length), n = hi - lo ∧ s = [(14, vp), (15, vq), (16, v18), (23, .int .i64 x), (24, .int .i64 y)] ∧ h8 = h' ∧ ms' = [] ∧ x = lo ∧ y = hi ∧ lo ≤ hi ∧ (∀ j (hj : j < lo) (hj' : j < T.length), ¬ Pos (fitsD p q T[j]) (p.length + q.length)) ∧ Pos (fitsD p q T[hi]) (p.length + q.length))
            (T.length - 1 - 0) _ ⟨0, T.length - 1, 0, (T.length : Int) - 1, by omega, rfl, rfl, rfl, rfl, rfl, by omega, by omega, fun j hj => by omega, hlast⟩ (by repeat (first | exact trivial | refine ⟨rfl, ?_⟩)) ?_
          rintro n s h' ms' ⟨lo, hi, x, y, hhi, rfl, rfl, rfl, rfl, hx, hy, hlo, hno, hyes⟩
          refine ws_seq ?_
          refine ws_seq ?_
          refine ws_region ?_
          refine wl_x (ox_move rfl rfl) rfl rfl rfl ?_
          refine wl_x (ox_move rfl rfl) rfl rfl rfl ?_
          refine wl_x (ox_lss rfl rfl rfl) rfl rfl rfl ?_
          refine wl_nil ?_
          refine nx_then ?_
          refine ws_if rfl (fun hlh => ?_) (fun hlh => ?_)
          · skip
            obtain ⟨m, hm⟩ : ∃ m, m = (lo + hi) / 2 := ⟨_, rfl⟩
            have hmT : m < T.length := by omega
            refine ws_skip ?_
            refine nx_then ?_
            refine ws_block ?_
            refine ws_seq ?_
            refine ws_region ?_
            refine wl_x (ox_move rfl rfl) rfl rfl rfl ?_
            refine wl_x (ox_move rfl rfl) rfl rfl rfl ?_
            refine wl_x (ox_add rfl rfl rfl (by omega)) rfl rfl rfl ?_
            first | refine wl_x (ox_quoP rfl rfl rfl (by omega) (by omega)) rfl rfl rfl ?_ | refine wl_x (ox_quo rfl rfl rfl (by omega) (by omega)) rfl rfl rfl ?_
            refine wl_x (ox_assign rfl rfl) rfl rfl rfl ?_
            refine wl_nil ?_
            refine nx_then ?_
            refine ws_seq ?_
            refine ws_region ?_
            refine wl_x (ox_move rfl rfl) rfl rfl rfl ?_
            refine wl_x (ox_move rfl rfl) rfl rfl rfl ?_
            refine wl_x (ox_move rfl rfl) rfl rfl rfl ?_
            refine wl_x (ox_move rfl rfl) rfl rfl rfl ?_
            first | refine wl_x (ox_index (m) rfl Try.underlying23 el3 rfl rfl (by omega) (by omega)) rfl rfl rfl ?_ | refine wl_x (ox_indexR (m) hRT.rd rfl Try.underlying23 el3 rfl rfl (by omega) (by omega)) rfl rfl rfl ?_
            refine wl_x (ox_load rfl Try.underlying3 rfl rfl (by first | exact hRT.cell0 hmT rfl)) rfl rfl rfl ?_
            refine wl_x (ox_call rfl Try.call37 rfl (possible_v p q vp vq _ h8 hRp hRq (by omega) (by omega) hpA hqB _)) rfl rfl rfl ?_
            refine wl_nil ?_
            refine nx_then ?_
            refine ws_cond rfl (fun hpo => ?_) (fun hpo => ?_)
            · skip
              have hpo' : Pos (fitsD p q T[m]) (p.length + q.length) := by simpa [posB] using hpo
              refine ws_region ?_
              refine wl_x (ox_move rfl rfl) rfl rfl rfl ?_
              refine wl_x (ox_assign rfl rfl) rfl rfl rfl ?_
              refine wl_nil ?_
              refine nx_block ?_
              refine nx_round (m - lo) _ (by omega) ⟨lo, m, x, (x + y) / 2, hmT, rfl, rfl, rfl, rfl, hx, by omega, by omega, hno, hpo'⟩ (by repeat (first | exact trivial | refine ⟨rfl, ?_⟩))
            · skip
              have hpo' : ¬ Pos (fitsD p q T[m]) (p.length + q.length) := by simpa [posB] using hpo
              refine ws_region ?_
              refine wl_x (ox_move rfl rfl) rfl rfl rfl ?_
              refine wl_x (ox_add rfl rfl rfl (by omega)) rfl rfl rfl ?_
              refine wl_x (ox_assign rfl rfl) rfl rfl rfl ?_
              refine wl_nil ?_
              refine nx_block ?_
              refine nx_round (hi - (m + 1)) _ (by omega) ⟨m + 1, hi, (x + y) / 2 + 1, y, hhi, rfl, rfl, rfl, rfl, by omega, hy, by omega, fun j hj hj' hp => hpo' (hp.mono (fitsD_mono (sorted_get hTs (by omega) hmT))), hyes⟩ (by repeat (first | exact trivial | refine ⟨rfl, ?_⟩))
          · skip
            obtain rfl : lo = hi := by omega
            have hID := hdone _ (List.getElem_mem hhi) hyes fun c hc hp => by
              obtain ⟨j, hj, rfl⟩ := List.getElem_of_mem hc
              rcases Nat.lt_or_ge j lo with h1 | h1
              · exact absurd hp (hno j h1 hj)
              · exact sorted_get hTs h1 hj
            refine ws_exit ?_
            refine nx_then_exit ?_
            refine nx_then_exit ?_
            refine nx_block_exit ?_
            refine nx_then ?_
            refine ws_seq ?_
            refine ws_region ?_
            refine wl_x (ox_move rfl rfl) rfl rfl rfl ?_
            refine wl_x (ox_move rfl rfl) rfl rfl rfl ?_
            first | refine wl_x (ox_index (lo) rfl Try.underlying23 el3 rfl rfl (by omega) (by omega)) rfl rfl rfl ?_ | refine wl_x (ox_indexR (lo) hRT.rd rfl Try.underlying23 el3 rfl rfl (by omega) (by omega)) rfl rfl rfl ?_
            refine wl_x (ox_load rfl Try.underlying3 rfl rfl (by first | exact hRT.cell0 hhi rfl)) rfl rfl rfl ?_
            refine wl_x (ox_assign rfl rfl) rfl rfl rfl ?_
            refine wl_x (ox_assign rfl rfl) rfl rfl rfl ?_
            refine wl_nil ?_
            refine nx_then ?_
            refine ws_ret ?_
            exact nx_ret2 rfl rfl rfl (⟨T[lo], true, rfl, fun h => absurd hlen h, fun _ => ⟨rfl, hID⟩⟩)
end Go.Proofs.Ythdkhnjnhhofgaa
