/- Walks: the library's sort at integers: the pivot, the patterns. -/
import Derived.Test.YthdkhnjnhhofgaaSp
set_option linter.unusedSimpArgs false
set_option linter.unusedVariables false
set_option maxRecDepth 100000
namespace Go.Proofs.Ythdkhnjnhhofgaa
open Go.Eng Go.RowKit Go.Sort

/-- What stands behind a look at the order of two: the count of exchanges. -/
def Cnt (h : Hp) (m : Hp) (g : Nat) (sw : Nat) : Hp → List Hp → Prop := fun h' ms' => h = h' ∧ ms' = [Blk g 3 [.int .i64 sw], m]

theorem order2_ok (d : Array Int) (v : Value) (m : Hp) (hO : OI m v d) (a b sw g : Nat) (ha : a < d.size) (hb : b < d.size) (hsw : sw ≤ 1000) (hsz : d.size ≤ 2305843009213693951) (h : Hp) {a' b' : Int} (ea : a' = a) (eb : b' = b) :
    FnT Try.prog 73 #[v, .int .i64 a', .int .i64 b', .pointer (some ⟨g, 0, none⟩)] h [Blk g 3 [.int .i64 sw], m] (fun r h' ms' => r = .tuple #[.int .i64 (order2 ltInt d a b sw).1, .int .i64 (order2 ltInt d a b sw).2.1] ∧ Cnt h m g (order2 ltInt d a b sw).2.2 h' ms') := by
  subst ea eb
  refine fn_enter Try.func73 Try.ntmps73 rfl rfl (fun w0 hw0 => ?_)
  simp only [argS]
  refine ws_seq ?_
  refine ws_region ?_
  refine wl_x (ox_assign rfl rfl) rfl rfl rfl ?_
  refine wl_x (ox_assign rfl rfl) rfl rfl rfl ?_
  refine wl_nil ?_
  refine nx_then ?_
  refine ws_seq ?_
  refine ws_seq ?_
  refine ws_draw 8 fol (by kernel_rfl) rfl ?_
  simp only [List.take_succ_cons, List.take_zero, List.drop_succ_cons, List.drop_zero, List.take_nil, List.drop_nil]
  refine wr_x (ox_move rfl rfl) rfl rfl ?_
  refine wr_x (ox_move rfl rfl) rfl rfl ?_
  first | refine wr_x (ox_index b rfl Try.underlying23 el3 rfl rfl (by omega) (by omega)) rfl rfl ?_ | refine wr_x (ox_indexR b (hO.rd (.tail _ (.head _))) rfl Try.underlying23 el3 rfl rfl (by omega) (by omega)) rfl rfl ?_
  refine wr_x (ox_load rfl Try.underlying3 rfl rfl (by first | exact hO.get (.tail _ (.head _)) (by omega))) rfl rfl ?_
  refine wr_x (ox_move rfl rfl) rfl rfl ?_
  refine wr_x (ox_move rfl rfl) rfl rfl ?_
  first | refine wr_x (ox_index a rfl Try.underlying23 el3 rfl rfl (by omega) (by omega)) rfl rfl ?_ | refine wr_x (ox_indexR a (hO.rd (.tail _ (.head _))) rfl Try.underlying23 el3 rfl rfl (by omega) (by omega)) rfl rfl ?_
  refine wr_x (ox_load rfl Try.underlying3 rfl rfl (by first | exact hO.get (.tail _ (.head _)) (by omega))) rfl rfl ?_
  refine wr_nil ?_
  refine wl_x (ox_call rfl Try.call59 rfl (less_ok _ _ _ _)) rfl rfl rfl ?_
  refine wl_nil ?_
  refine nx_then ?_
  refine ws_cond rfl (fun hl => ?_) (fun hl => ?_)
  · skip
    refine ws_seq ?_
    refine ws_region ?_
    refine wl_x (ox_move rfl rfl) rfl rfl rfl ?_
    refine wl_x (ox_nilCheck rfl rfl) rfl rfl rfl ?_
    refine wl_x (ox_load rfl Try.underlying3 rfl rfl (by first | exact Cell.blk0 0 rfl rfl | exact Cell.blk0 1 rfl rfl | exact Cell.blk0 2 rfl rfl | exact Cell.blk0 3 rfl rfl | exact Cell.blk0 4 rfl rfl | exact hO.get (.tail _ (.head _)) (by omega))) rfl rfl rfl ?_
    refine wl_x (ox_add rfl rfl rfl (by omega)) rfl rfl rfl ?_
    refine wl_x (ox_nilCheck rfl rfl) rfl rfl rfl ?_
    first | refine wl_storeAt 0 0 rfl el3 rfl rfl (by first | rfl | exact Rd.one ‹_› | exact (RdL.rd ‹_›).one) rfl rfl (by first | decide | (simp; done) | (simp; omega)) rfl rfl ?_ | refine wl_storeAt 1 0 rfl el3 rfl rfl (by first | rfl | exact Rd.one ‹_› | exact (RdL.rd ‹_›).one) rfl rfl (by first | decide | (simp; done) | (simp; omega)) rfl rfl ?_ | refine wl_storeAt 2 0 rfl el3 rfl rfl (by first | rfl | exact Rd.one ‹_› | exact (RdL.rd ‹_›).one) rfl rfl (by first | decide | (simp; done) | (simp; omega)) rfl rfl ?_ | refine wl_storeAt 3 0 rfl el3 rfl rfl (by first | rfl | exact Rd.one ‹_› | exact (RdL.rd ‹_›).one) rfl rfl (by first | decide | (simp; done) | (simp; omega)) rfl rfl ?_ | refine wl_storeAt 4 0 rfl el3 rfl rfl (by first | rfl | exact Rd.one ‹_› | exact (RdL.rd ‹_›).one) rfl rfl (by first | decide | (simp; done) | (simp; omega)) rfl rfl ?_
    refine wl_nil ?_
    refine nx_then ?_
    refine ws_seq ?_
    refine ws_region ?_
    refine wl_x (ox_move rfl rfl) rfl rfl rfl ?_
    refine wl_x (ox_move rfl rfl) rfl rfl rfl ?_
    refine wl_x (ox_assign rfl rfl) rfl rfl rfl ?_
    refine wl_x (ox_assign rfl rfl) rfl rfl rfl ?_
    refine wl_nil ?_
    refine nx_then ?_
    refine ws_ret ?_
    refine nx_then_ret ?_
    have hE : order2 ltInt d a b sw = (b, a, sw + 1) := by unfold order2; rw [if_pos hl]
    rw [hE]
    exact nx_ret2 rfl rfl rfl (⟨rfl, rfl, rfl⟩)
  · skip
    refine ws_skip ?_
    refine nx_then ?_
    refine ws_seq ?_
    refine ws_region ?_
    refine wl_x (ox_move rfl rfl) rfl rfl rfl ?_
    refine wl_x (ox_move rfl rfl) rfl rfl rfl ?_
    refine wl_x (ox_assign rfl rfl) rfl rfl rfl ?_
    refine wl_x (ox_assign rfl rfl) rfl rfl rfl ?_
    refine wl_nil ?_
    refine nx_then ?_
    refine ws_ret ?_
    have hE : order2 ltInt d a b sw = (a, b, sw) := by unfold order2; rw [if_neg (by simp [hl])]
    rw [hE]
    exact nx_ret2 rfl rfl rfl (⟨rfl, rfl, rfl⟩)

theorem order2_lt {d : Array Int} {a b sw : Nat} {n : Nat} (ha : a < n) (hb : b < n) : (order2 ltInt d a b sw).1 < n ∧ (order2 ltInt d a b sw).2.1 < n ∧ (order2 ltInt d a b sw).2.2 ≤ sw + 1 := by
  unfold order2; split
  · exact ⟨hb, ha, Nat.le_refl _⟩
  · exact ⟨ha, hb, Nat.le_succ _⟩

theorem median_ok (d : Array Int) (v : Value) (m : Hp) (hO : OI m v d) (a b c sw g : Nat) (ha : a < d.size) (hb : b < d.size) (hc : c < d.size) (hsw : sw ≤ 100) (hsz : d.size ≤ 2305843009213693951) (h : Hp) {a' b' c' : Int} (ea : a' = a) (eb : b' = b) (ec : c' = c) :
    FnT Try.prog 69 #[v, .int .i64 a', .int .i64 b', .int .i64 c', .pointer (some ⟨g, 0, none⟩)] h [Blk g 3 [.int .i64 sw], m] (fun r h' ms' => r = .int .i64 (median ltInt d a b c sw).1 ∧ Cnt h m g (median ltInt d a b c sw).2 h' ms') := by
  subst ea eb ec
  have l1 := order2_lt (d := d) (sw := sw) ha hb
  have l2 := order2_lt (d := d) (sw := (order2 ltInt d a b sw).2.2) l1.2.1 hc
  have hE : median ltInt d a b c sw = ((order2 ltInt d (order2 ltInt d a b sw).1 (order2 ltInt d (order2 ltInt d a b sw).2.1 c (order2 ltInt d a b sw).2.2).1 (order2 ltInt d (order2 ltInt d a b sw).2.1 c (order2 ltInt d a b sw).2.2).2.2).2.1, (order2 ltInt d (order2 ltInt d a b sw).1 (order2 ltInt d (order2 ltInt d a b sw).2.1 c (order2 ltInt d a b sw).2.2).1 (order2 ltInt d (order2 ltInt d a b sw).2.1 c (order2 ltInt d a b sw).2.2).2.2).2.2) := rfl
  rw [hE]
  refine fn_enter Try.func69 Try.ntmps69 rfl rfl (fun w0 hw0 => ?_)
  simp only [argS]
  refine ws_seq ?_
  refine ws_region ?_
  refine wl_x (ox_assign rfl rfl) rfl rfl rfl ?_
  refine wl_nil ?_
  refine nx_then ?_
  refine ws_seq ?_
  refine ws_region ?_
  refine wl_x (ox_move rfl rfl) rfl rfl rfl ?_
  refine wl_x (ox_move rfl rfl) rfl rfl rfl ?_
  refine wl_x (ox_move rfl rfl) rfl rfl rfl ?_
  refine wl_x (ox_move rfl rfl) rfl rfl rfl ?_
  refine wl_call_ (pre := [Blk g 3 [.int .i64 sw], m]) rfl Try.call73 rfl (order2_ok d v m hO a b sw g ha hb (by omega) hsz _ rfl rfl) rfl rfl rfl rfl (fun _ _ _ _ hL => ?_)
  obtain ⟨rfl, rfl, rfl⟩ := hL
  refine wl_x (ox_move rfl rfl) rfl rfl rfl ?_
  refine wl_x (ox_extract rfl rfl rfl) rfl rfl rfl ?_
  refine wl_x (ox_extract rfl rfl rfl) rfl rfl rfl ?_
  refine wl_x (ox_assign rfl rfl) rfl rfl rfl ?_
  refine wl_x (ox_assign rfl rfl) rfl rfl rfl ?_
  refine wl_nil ?_
  refine nx_then ?_
  refine ws_seq ?_
  refine ws_region ?_
  refine wl_x (ox_move rfl rfl) rfl rfl rfl ?_
  refine wl_x (ox_move rfl rfl) rfl rfl rfl ?_
  refine wl_x (ox_move rfl rfl) rfl rfl rfl ?_
  refine wl_x (ox_move rfl rfl) rfl rfl rfl ?_
  refine wl_call_ (pre := [Blk g 3 [.int .i64 (order2 ltInt d a b sw).2.2], m]) rfl Try.call73 rfl (order2_ok d v m hO (order2 ltInt d a b sw).2.1 c (order2 ltInt d a b sw).2.2 g l1.2.1 hc (by omega) hsz _ rfl rfl) rfl rfl rfl rfl (fun _ _ _ _ hL => ?_)
  obtain ⟨rfl, rfl, rfl⟩ := hL
  refine wl_x (ox_move rfl rfl) rfl rfl rfl ?_
  refine wl_x (ox_extract rfl rfl rfl) rfl rfl rfl ?_
  refine wl_x (ox_extract rfl rfl rfl) rfl rfl rfl ?_
  refine wl_x (ox_assign rfl rfl) rfl rfl rfl ?_
  refine wl_x (ox_assign rfl rfl) rfl rfl rfl ?_
  refine wl_nil ?_
  refine nx_then ?_
  refine ws_seq ?_
  refine ws_region ?_
  refine wl_x (ox_move rfl rfl) rfl rfl rfl ?_
  refine wl_x (ox_move rfl rfl) rfl rfl rfl ?_
  refine wl_x (ox_move rfl rfl) rfl rfl rfl ?_
  refine wl_x (ox_move rfl rfl) rfl rfl rfl ?_
  refine wl_call_ (pre := [Blk g 3 [.int .i64 (order2 ltInt d (order2 ltInt d a b sw).2.1 c (order2 ltInt d a b sw).2.2).2.2], m]) rfl Try.call73 rfl (order2_ok d v m hO (order2 ltInt d a b sw).1 (order2 ltInt d (order2 ltInt d a b sw).2.1 c (order2 ltInt d a b sw).2.2).1 (order2 ltInt d (order2 ltInt d a b sw).2.1 c (order2 ltInt d a b sw).2.2).2.2 g l1.1 l2.1 (by omega) hsz _ rfl rfl) rfl rfl rfl rfl (fun _ _ _ _ hL => ?_)
  obtain ⟨rfl, rfl, rfl⟩ := hL
  refine wl_x (ox_move rfl rfl) rfl rfl rfl ?_
  refine wl_x (ox_extract rfl rfl rfl) rfl rfl rfl ?_
  refine wl_x (ox_extract rfl rfl rfl) rfl rfl rfl ?_
  refine wl_x (ox_assign rfl rfl) rfl rfl rfl ?_
  refine wl_x (ox_assign rfl rfl) rfl rfl rfl ?_
  refine wl_nil ?_
  refine nx_then ?_
  refine ws_seq ?_
  refine ws_region ?_
  refine wl_x (ox_move rfl rfl) rfl rfl rfl ?_
  refine wl_x (ox_assign rfl rfl) rfl rfl rfl ?_
  refine wl_nil ?_
  refine nx_then ?_
  refine ws_ret ?_
  exact nx_ret1 rfl rfl (⟨rfl, rfl, rfl⟩)
theorem median_lt {d : Array Int} {a b c sw n : Nat} (ha : a < n) (hb : b < n) (hc : c < n) : (median ltInt d a b c sw).1 < n ∧ (median ltInt d a b c sw).2 ≤ sw + 3 := by
  have l1 := order2_lt (d := d) (sw := sw) ha hb
  have l2 := order2_lt (d := d) (sw := (order2 ltInt d a b sw).2.2) l1.2.1 hc
  have l3 := order2_lt (d := d) (sw := (order2 ltInt d (order2 ltInt d a b sw).2.1 c (order2 ltInt d a b sw).2.2).2.2) l1.1 l2.1
  exact ⟨l3.2.1, Nat.le_trans l3.2.2 (by omega)⟩

theorem medianAdjacent_ok (d : Array Int) (v : Value) (m : Hp) (hO : OI m v d) (a sw g : Nat) (ha : 0 < a) (hb : a + 1 < d.size) (hsw : sw ≤ 100) (hsz : d.size ≤ 2305843009213693951) (h : Hp) {a' : Int} (ea : a' = a) :
    FnT Try.prog 68 #[v, .int .i64 a', .pointer (some ⟨g, 0, none⟩)] h [Blk g 3 [.int .i64 sw], m] (fun r h' ms' => r = .int .i64 (medianAdjacent ltInt d a sw).1 ∧ Cnt h m g (medianAdjacent ltInt d a sw).2 h' ms') := by
  subst ea
  refine fn_enter Try.func68 Try.ntmps68 rfl rfl (fun w0 hw0 => ?_)
  simp only [argS]
  refine ws_seq ?_
  refine ws_region ?_
  refine wl_x (ox_assign rfl rfl) rfl rfl rfl ?_
  refine wl_nil ?_
  refine nx_then ?_
  refine ws_seq ?_
  refine ws_region ?_
  refine wl_x (ox_move rfl rfl) rfl rfl rfl ?_
  refine wl_x (ox_move rfl rfl) rfl rfl rfl ?_
  refine wl_x (ox_sub rfl rfl rfl (by omega)) rfl rfl rfl ?_
  refine wl_x (ox_move rfl rfl) rfl rfl rfl ?_
  refine wl_x (ox_move rfl rfl) rfl rfl rfl ?_
  refine wl_x (ox_add rfl rfl rfl (by omega)) rfl rfl rfl ?_
  refine wl_x (ox_move rfl rfl) rfl rfl rfl ?_
  refine wl_call_ (pre := [Blk g 3 [.int .i64 sw], m]) rfl Try.call69 rfl (median_ok d v m hO (a - 1) a (a + 1) sw g (by omega) (by omega) (by omega) (by omega) hsz _ (by omega) (by omega) (by omega)) rfl rfl rfl rfl (fun _ _ _ _ hL => ?_)
  obtain ⟨rfl, rfl, rfl⟩ := hL
  refine wl_x (ox_assign rfl rfl) rfl rfl rfl ?_
  refine wl_nil ?_
  refine nx_then ?_
  refine ws_ret ?_
  exact nx_ret1 rfl rfl (⟨rfl, rfl, rfl⟩)

def hintV : Hint → Int
  | .unknown => 0
  | .increasing => 1
  | .decreasing => 2

theorem choosePivot_ok (d : Array Int) (v : Value) (m : Hp) (hO : OI m v d) (a b : Nat) (hab : a < b) (hb : b ≤ d.size) (hsz : d.size ≤ 2305843009213693951) (h : Hp) {a' b' : Int} (ea : a' = a) (eb : b' = b) :
    FnT Try.prog 56 #[v, .int .i64 a', .int .i64 b'] h [m] (fun r h' ms' => r = .tuple #[.int .i64 (choosePivot ltInt d a b).1, .int .i64 (hintV (choosePivot ltInt d a b).2)] ∧ h = h' ∧ ms' = [m]) := by
  subst ea eb
  refine fn_enter Try.func56 Try.ntmps56 rfl rfl (fun w0 hw0 => ?_)
  simp only [argS]
  refine ws_seq ?_
  refine ws_region ?_
  refine wl_x (ox_assign rfl rfl) rfl rfl rfl ?_
  refine wl_x (ox_assign rfl rfl) rfl rfl rfl ?_
  refine wl_nil ?_
  refine nx_then ?_
  refine ws_seq ?_
  refine ws_region ?_
  refine wl_x (ox_move rfl rfl) rfl rfl rfl ?_
  refine wl_x (ox_move rfl rfl) rfl rfl rfl ?_
  refine wl_x (ox_sub rfl rfl rfl (by omega)) rfl rfl rfl ?_
  refine wl_x (ox_assign rfl rfl) rfl rfl rfl ?_
  refine wl_nil ?_
  refine nx_then ?_
  refine ws_seq ?_
  refine ws_region ?_
  refine wl_alloc [.int .i64 0] rfl el3 rfl rfl rfl rfl (fun g9 => ?_)
  refine wl_nil ?_
  refine nx_then ?_
  refine ws_seq ?_
  refine ws_region ?_
  refine wl_x (ox_move rfl rfl) rfl rfl rfl ?_
  refine wl_x (ox_move rfl rfl) rfl rfl rfl ?_
  first | refine wl_x (ox_quoP rfl rfl rfl (by omega) (by omega)) rfl rfl rfl ?_ | refine wl_x (ox_quo rfl rfl rfl (by omega) (by omega)) rfl rfl rfl ?_
  refine wl_x (ox_mul rfl rfl rfl (by omega)) rfl rfl rfl ?_
  refine wl_x (ox_add rfl rfl rfl (by omega)) rfl rfl rfl ?_
  refine wl_x (ox_assign rfl rfl) rfl rfl rfl ?_
  refine wl_nil ?_
  refine nx_then ?_
  refine ws_seq ?_
  refine ws_region ?_
  refine wl_x (ox_move rfl rfl) rfl rfl rfl ?_
  refine wl_x (ox_move rfl rfl) rfl rfl rfl ?_
  first | refine wl_x (ox_quoP rfl rfl rfl (by omega) (by omega)) rfl rfl rfl ?_ | refine wl_x (ox_quo rfl rfl rfl (by omega) (by omega)) rfl rfl rfl ?_
  refine wl_x (ox_mul rfl rfl rfl (by omega)) rfl rfl rfl ?_
  refine wl_x (ox_add rfl rfl rfl (by omega)) rfl rfl rfl ?_
  refine wl_x (ox_assign rfl rfl) rfl rfl rfl ?_
  refine wl_nil ?_
  refine nx_then ?_
  refine ws_seq ?_
  refine ws_region ?_
  refine wl_x (ox_move rfl rfl) rfl rfl rfl ?_
  refine wl_x (ox_move rfl rfl) rfl rfl rfl ?_
  first | refine wl_x (ox_quoP rfl rfl rfl (by omega) (by omega)) rfl rfl rfl ?_ | refine wl_x (ox_quo rfl rfl rfl (by omega) (by omega)) rfl rfl rfl ?_
  refine wl_x (ox_mul rfl rfl rfl (by omega)) rfl rfl rfl ?_
  refine wl_x (ox_add rfl rfl rfl (by omega)) rfl rfl rfl ?_
  refine wl_x (ox_assign rfl rfl) rfl rfl rfl ?_
  refine wl_nil ?_
  refine nx_then ?_
  refine ws_cut (fun s h' ms' => ∃ (p sw : Nat), s = [(9, .pointer (some ⟨g9, 0, none⟩)), (11, .int .i64 p)] ∧ h = h' ∧ ms' = [Blk g9 3 [.int .i64 sw], m] ∧ choosePivot ltInt d a b = (p, if sw = 0 then .increasing else if sw = 12 then .decreasing else .unknown)) ?_ (fun s h ms hI => ?_)
  · skip
    refine ws_seq ?_
    refine ws_region ?_
    refine wl_x (ox_move rfl rfl) rfl rfl rfl ?_
    refine wl_x (ox_geq rfl rfl rfl) rfl rfl rfl ?_
    refine wl_nil ?_
    refine nx_then ?_
    refine ws_if rfl (fun h8 => ?_) (fun h8 => ?_)
    · skip
      refine ws_seq ?_
      refine ws_seq ?_
      refine ws_region ?_
      refine wl_x (ox_move rfl rfl) rfl rfl rfl ?_
      refine wl_x (ox_geq rfl rfl rfl) rfl rfl rfl ?_
      refine wl_nil ?_
      refine nx_then ?_
      refine ws_if rfl (fun h50 => ?_) (fun h50 => ?_)
      · skip
        have hi : a + (b - a) / 4 * 1 + 1 < d.size := by omega
        have hj : a + (b - a) / 4 * 2 + 1 < d.size := by omega
        have hk : a + (b - a) / 4 * 3 + 1 < d.size := by omega
        refine ws_seq ?_
        refine ws_region ?_
        refine wl_x (ox_move rfl rfl) rfl rfl rfl ?_
        refine wl_x (ox_move rfl rfl) rfl rfl rfl ?_
        refine wl_call_ (pre := [Blk g9 3 [.int .i64 (0 : Nat)], m]) rfl Try.call68 rfl (medianAdjacent_ok d v m hO (a + (b - a) / 4 * 1) 0 g9 (by omega) hi (by omega) hsz _ (by omega)) rfl rfl rfl rfl (fun _ _ _ _ hL => ?_)
        obtain ⟨rfl, rfl, rfl⟩ := hL
        have m1 := median_lt (d := d) (sw := 0) (n := d.size) (a := a + (b - a) / 4 * 1 - 1) (b := a + (b - a) / 4 * 1) (c := a + (b - a) / 4 * 1 + 1) (by omega) (by omega) (by omega)
        change (medianAdjacent ltInt d (a + (b - a) / 4 * 1) 0).1 < _ ∧ (medianAdjacent ltInt d (a + (b - a) / 4 * 1) 0).2 ≤ _ at m1
        generalize hri : medianAdjacent ltInt d (a + (b - a) / 4 * 1) 0 = ri at m1 ⊢
        refine wl_x (ox_assign rfl rfl) rfl rfl rfl ?_
        refine wl_nil ?_
        refine nx_then ?_
        refine ws_seq ?_
        refine ws_region ?_
        refine wl_x (ox_move rfl rfl) rfl rfl rfl ?_
        refine wl_x (ox_move rfl rfl) rfl rfl rfl ?_
        refine wl_call_ (pre := [Blk g9 3 [.int .i64 ri.2], m]) rfl Try.call68 rfl (medianAdjacent_ok d v m hO (a + (b - a) / 4 * 2) ri.2 g9 (by omega) hj (by omega) hsz _ (by omega)) rfl rfl rfl rfl (fun _ _ _ _ hL => ?_)
        obtain ⟨rfl, rfl, rfl⟩ := hL
        have m2 := median_lt (d := d) (sw := ri.2) (n := d.size) (a := a + (b - a) / 4 * 2 - 1) (b := a + (b - a) / 4 * 2) (c := a + (b - a) / 4 * 2 + 1) (by omega) (by omega) (by omega)
        change (medianAdjacent ltInt d (a + (b - a) / 4 * 2) ri.2).1 < _ ∧ (medianAdjacent ltInt d (a + (b - a) / 4 * 2) ri.2).2 ≤ _ at m2
        generalize hrj : medianAdjacent ltInt d (a + (b - a) / 4 * 2) ri.2 = rj at m2 ⊢
        refine wl_x (ox_assign rfl rfl) rfl rfl rfl ?_
        refine wl_nil ?_
        refine nx_then ?_
        refine ws_region ?_
        refine wl_x (ox_move rfl rfl) rfl rfl rfl ?_
        refine wl_x (ox_move rfl rfl) rfl rfl rfl ?_
        refine wl_call_ (pre := [Blk g9 3 [.int .i64 rj.2], m]) rfl Try.call68 rfl (medianAdjacent_ok d v m hO (a + (b - a) / 4 * 3) rj.2 g9 (by omega) hk (by omega) hsz _ (by omega)) rfl rfl rfl rfl (fun _ _ _ _ hL => ?_)
        obtain ⟨rfl, rfl, rfl⟩ := hL
        have m3 := median_lt (d := d) (sw := rj.2) (n := d.size) (a := a + (b - a) / 4 * 3 - 1) (b := a + (b - a) / 4 * 3) (c := a + (b - a) / 4 * 3 + 1) (by omega) (by omega) (by omega)
        change (medianAdjacent ltInt d (a + (b - a) / 4 * 3) rj.2).1 < _ ∧ (medianAdjacent ltInt d (a + (b - a) / 4 * 3) rj.2).2 ≤ _ at m3
        generalize hrk : medianAdjacent ltInt d (a + (b - a) / 4 * 3) rj.2 = rk at m3 ⊢
        refine wl_x (ox_assign rfl rfl) rfl rfl rfl ?_
        refine wl_nil ?_
        refine nx_then ?_
        refine ws_region ?_
        refine wl_x (ox_move rfl rfl) rfl rfl rfl ?_
        refine wl_x (ox_move rfl rfl) rfl rfl rfl ?_
        refine wl_x (ox_move rfl rfl) rfl rfl rfl ?_
        refine wl_x (ox_move rfl rfl) rfl rfl rfl ?_
        refine wl_call_ (pre := [Blk g9 3 [.int .i64 rk.2], m]) rfl Try.call69 rfl (median_ok d v m hO ri.1 rj.1 rk.1 rk.2 g9 m1.1 m2.1 m3.1 (by omega) hsz _ rfl rfl rfl) rfl rfl rfl rfl (fun _ _ _ _ hL => ?_)
        obtain ⟨rfl, rfl, rfl⟩ := hL
        refine wl_x (ox_assign rfl rfl) rfl rfl rfl ?_
        refine wl_nil ?_
        refine nx_meet _ ⟨(median ltInt d ri.1 rj.1 rk.1 rk.2).1, (median ltInt d ri.1 rj.1 rk.1 rk.2).2, rfl, rfl, rfl, ?_⟩ (by repeat (first | exact trivial | refine ⟨rfl, ?_⟩))
        unfold choosePivot
        simp only [if_pos (show b - a ≥ 8 by omega), if_pos (show b - a ≥ 50 by omega), hri, hrj, hrk]
      · skip
        refine ws_skip ?_
        refine nx_then ?_
        refine ws_region ?_
        refine wl_x (ox_move rfl rfl) rfl rfl rfl ?_
        refine wl_x (ox_move rfl rfl) rfl rfl rfl ?_
        refine wl_x (ox_move rfl rfl) rfl rfl rfl ?_
        refine wl_x (ox_move rfl rfl) rfl rfl rfl ?_
        refine wl_call_ (pre := [Blk g9 3 [.int .i64 (0 : Nat)], m]) rfl Try.call69 rfl (median_ok d v m hO (a + (b - a) / 4 * 1) (a + (b - a) / 4 * 2) (a + (b - a) / 4 * 3) 0 g9 (by omega) (by omega) (by omega) (by omega) hsz _ (by omega) (by omega) (by omega)) rfl rfl rfl rfl (fun _ _ _ _ hL => ?_)
        obtain ⟨rfl, rfl, rfl⟩ := hL
        refine wl_x (ox_assign rfl rfl) rfl rfl rfl ?_
        refine wl_nil ?_
        refine nx_meet _ ⟨_, _, rfl, rfl, rfl, ?_⟩ (by repeat (first | exact trivial | refine ⟨rfl, ?_⟩))
        unfold choosePivot
        simp only [if_pos (show b - a ≥ 8 by omega), if_neg (show ¬ b - a ≥ 50 by omega)]
    · skip
      refine ws_skip ?_
      have ej : (a : Int) + ((b : Int) - a) / 4 * 2 = ((a + (b - a) / 4 * 2 : Nat) : Int) := by omega
      rw [ej]
      refine nx_meet _ ⟨a + (b - a) / 4 * 2, 0, rfl, rfl, rfl, ?_⟩ (by repeat (first | exact trivial | refine ⟨rfl, ?_⟩))
      unfold choosePivot
      simp only [if_neg (show ¬ b - a ≥ 8 by omega)]
  · skip
    obtain ⟨p, sw, rfl, rfl, rfl, hE⟩ := hI
    rw [hE]
    refine ws_seq ?_
    refine ws_region ?_
    refine wl_x (ox_load rfl Try.underlying3 rfl rfl (by first | exact Cell.blk0 0 rfl rfl | exact Cell.blk0 1 rfl rfl | exact hO.get (.tail _ (.head _)) (by omega))) rfl rfl rfl ?_
    refine wl_nil ?_
    refine nx_then ?_
    refine ws_block ?_
    refine ws_seq ?_
    refine ws_region ?_
    refine wl_x (ox_eqi rfl rfl rfl) rfl rfl rfl ?_
    refine wl_x (ox_assign rfl rfl) rfl rfl rfl ?_
    refine wl_nil ?_
    refine nx_then ?_
    refine ws_if rfl (fun h0 => ?_) (fun h0 => ?_)
    · skip
      refine ws_seq ?_
      refine ws_region ?_
      refine wl_x (ox_move rfl rfl) rfl rfl rfl ?_
      refine wl_x (ox_assign rfl rfl) rfl rfl rfl ?_
      refine wl_x (ox_assign rfl rfl) rfl rfl rfl ?_
      refine wl_nil ?_
      refine nx_then ?_
      refine ws_ret ?_
      refine nx_block_ret ?_
      refine nx_drop ?_
      rw [if_pos (show sw = 0 by omega)]
      exact nx_ret2 rfl rfl rfl (⟨rfl, rfl, rfl⟩)
    · skip
      rw [if_neg (show ¬ sw = 0 by omega)]
      refine ws_seq ?_
      refine ws_region ?_
      refine wl_x (ox_eqi rfl rfl rfl) rfl rfl rfl ?_
      refine wl_x (ox_assign rfl rfl) rfl rfl rfl ?_
      refine wl_nil ?_
      refine nx_then ?_
      refine ws_if rfl (fun h12 => ?_) (fun h12 => ?_)
      · skip
        refine ws_seq ?_
        refine ws_region ?_
        refine wl_x (ox_move rfl rfl) rfl rfl rfl ?_
        refine wl_x (ox_assign rfl rfl) rfl rfl rfl ?_
        refine wl_x (ox_assign rfl rfl) rfl rfl rfl ?_
        refine wl_nil ?_
        refine nx_then ?_
        refine ws_ret ?_
        refine nx_block_ret ?_
        refine nx_drop ?_
        rw [if_pos (show sw = 12 by omega)]
        exact nx_ret2 rfl rfl rfl (⟨rfl, rfl, rfl⟩)
      · skip
        refine ws_seq ?_
        refine ws_region ?_
        refine wl_x (ox_move rfl rfl) rfl rfl rfl ?_
        refine wl_x (ox_assign rfl rfl) rfl rfl rfl ?_
        refine wl_x (ox_assign rfl rfl) rfl rfl rfl ?_
        refine wl_nil ?_
        refine nx_then ?_
        refine ws_ret ?_
        refine nx_block_ret ?_
        refine nx_drop ?_
        rw [if_neg (show ¬ sw = 12 by omega)]
        exact nx_ret2 rfl rfl rfl (⟨rfl, rfl, rfl⟩)
end Go.Proofs.Ythdkhnjnhhofgaa
