/- Walks: the library's sort at integers, whole. -/
import Derived.Test.YthdkhnjnhhofgaaSt
set_option linter.unusedSimpArgs false
set_option linter.unusedVariables false
set_option maxRecDepth 100000
namespace Go.Proofs.Ythdkhnjnhhofgaa
open Go.Eng Go.RowKit Go.Sort

/-- Sorted from a to b. -/
def Srt (h : Hp) (v : Value) (d : Array Int) (a b : Nat) : Value → Hp → List Hp → Prop := fun _ h' ms' => h = h' ∧ ∃ d' m, ms' = [m] ∧ OI m v d' ∧ PermIn a b d d' ∧ SortedIn ltInt a b d'


theorem pdq_ok (n : Nat) : ∀ (d : Array Int) (v : Value) (m : Hp), OI m v d → ∀ (a b : Nat) (limit : Int), b - a ≤ n → a ≤ b → b ≤ d.size → d.size ≤ 2305843009213693951 → Sort.Below ltInt a b d → 0 ≤ limit → limit ≤ 100 → ∀ (h : Hp) {a' b' : Int}, a' = a → b' = b →
    FnT Try.prog 46 #[v, .int .i64 a', .int .i64 b', .int .i64 limit] h [m] (Srt h v d a b) := by
  induction n using Nat.strongRecOn with
  | _ n ih =>
  intro d v m hO a b limit hn hab hb hsz hB hl0 hl1 h a' b' ea eb
  subst ea eb
  refine fn_enter Try.func46 Try.ntmps46 rfl rfl (fun w0 hw0 => ?_)
  simp only [argS]
  refine ws_seq ?_
  refine ws_region ?_
  refine wl_x (ox_assign rfl rfl) rfl rfl rfl ?_
  refine wl_nil ?_
  refine nx_then ?_
  refine ws_seq ?_
  refine ws_region ?_
  refine wl_x (ox_assign rfl rfl) rfl rfl rfl ?_
  refine wl_nil ?_
  refine nx_then ?_
  refine ws_block ?_
  refine ws_loop (fun k s h' ms' => ∃ (a1 b1 : Nat) (x y lim : Int) (wb wp : Bool) (d' : Array Int) (m : Hp), k = b1 - a1 ∧ s = [(0, v), (1, .int .i64 x), (2, .int .i64 y), (3, .int .i64 lim), (8, .bool wb), (9, .bool wp)] ∧ h = h' ∧ ms' = [m] ∧ x = a1 ∧ y = b1 ∧ 0 ≤ lim ∧ lim ≤ 100 ∧ a1 ≤ b1 ∧ b1 - a1 ≤ b - a ∧ OI m v d' ∧ d'.size = d.size ∧ b1 ≤ d.size ∧ Sort.Below ltInt a1 b1 d' ∧ ∀ R, PermIn a1 b1 d' R → SortedIn ltInt a1 b1 R → PermIn a b d R ∧ SortedIn ltInt a b R)
    _ _ ⟨a, b, a, b, limit, true, true, d, m, rfl, rfl, rfl, rfl, rfl, rfl, hl0, hl1, hab, Nat.le_refl _, hO, rfl, hb, hB, fun R h1 h2 => ⟨h1, h2⟩⟩ (by repeat (first | exact trivial | refine ⟨rfl, ?_⟩)) ?_
  rintro k s h' ms' ⟨a1, b1, x, y, lim, wb, wp, d0, m0, rfl, rfl, rfl, rfl, hx, hy, hm0, hm1, hab1, hle, hO0, hds, hb1, hB0, hfin⟩
  refine ws_block ?_
  refine ws_seq ?_
  refine ws_region ?_
  refine wl_x (ox_move rfl rfl) rfl rfl rfl ?_
  refine wl_x (ox_move rfl rfl) rfl rfl rfl ?_
  refine wl_x (ox_sub rfl rfl rfl (by omega)) rfl rfl rfl ?_
  refine wl_x (ox_assign rfl rfl) rfl rfl rfl ?_
  refine wl_nil ?_
  refine nx_then ?_
  refine ws_seq ?_
  refine ws_seq ?_
  refine ws_region ?_
  refine wl_x (ox_move rfl rfl) rfl rfl rfl ?_
  refine wl_x (ox_leq rfl rfl rfl) rfl rfl rfl ?_
  refine wl_nil ?_
  refine nx_then ?_
  refine ws_if rfl (fun h12 => ?_) (fun h12 => ?_)
  · skip
    refine ws_seq ?_
    refine ws_region ?_
    refine wl_x (ox_move rfl rfl) rfl rfl rfl ?_
    refine wl_x (ox_move rfl rfl) rfl rfl rfl ?_
    refine wl_x (ox_move rfl rfl) rfl rfl rfl ?_
    refine wl_call_ (pre := [m0]) rfl Try.call53 rfl (insertionSort_ok d0 v m0 hO0 a1 b1 hab1 (by omega) (by omega) _ (by omega) (by omega)) rfl rfl rfl rfl (fun _ _ _ _ hL => ?_)
    obtain ⟨rfl, m1, rfl, hO1⟩ := hL
    obtain ⟨p1, p2⟩ := insertionSort_holds swo_ltInt d0 a1 b1 hab1 (by omega)
    obtain ⟨q1, q2⟩ := hfin _ p1 p2
    refine wl_nil ?_
    refine nx_then ?_
    refine ws_ret ?_
    refine nx_then_ret ?_
    refine nx_block_ret ?_
    refine nx_then_ret ?_
    refine nx_block_ret ?_
    exact nx_ret0 rfl (⟨rfl, _, m1, rfl, hO1, q1, q2⟩)
  · skip
    refine ws_skip ?_
    refine nx_then ?_
    refine ws_seq ?_
    refine ws_seq ?_
    refine ws_region ?_
    refine wl_x (ox_move rfl rfl) rfl rfl rfl ?_
    refine wl_x (ox_eqi rfl rfl rfl) rfl rfl rfl ?_
    refine wl_nil ?_
    refine nx_then ?_
    refine ws_if rfl (fun hlz => ?_) (fun hlz => ?_)
    · skip
      refine ws_seq ?_
      refine ws_region ?_
      refine wl_x (ox_move rfl rfl) rfl rfl rfl ?_
      refine wl_x (ox_move rfl rfl) rfl rfl rfl ?_
      refine wl_x (ox_move rfl rfl) rfl rfl rfl ?_
      refine wl_call_ (pre := [m0]) rfl Try.call54 rfl (heapSort_ok d0 v m0 hO0 a1 b1 (by omega) (by omega) (by omega) _ (by omega) (by omega)) rfl rfl rfl rfl (fun _ _ _ _ hL => ?_)
      obtain ⟨rfl, m1, rfl, hO1⟩ := hL
      obtain ⟨p1, p2⟩ := heapSort_holds swo_ltInt d0 a1 b1 hab1 (by omega)
      obtain ⟨q1, q2⟩ := hfin _ p1 p2
      refine wl_nil ?_
      refine nx_then ?_
      refine ws_ret ?_
      refine nx_then_ret ?_
      refine nx_block_ret ?_
      refine nx_then_ret ?_
      refine nx_block_ret ?_
      exact nx_ret0 rfl (⟨rfl, _, m1, rfl, hO1, q1, q2⟩)
    · skip
      refine ws_skip ?_
      refine nx_then ?_
      refine ws_cut (fun s h' ms' => ∃ (lim1 : Int) (d' : Array Int) (m : Hp), s = [(0, v), (1, .int .i64 x), (2, .int .i64 y), (3, .int .i64 lim1), (8, .bool wb), (9, .bool wp), (10, .int .i64 (y - x))] ∧ h = h' ∧ ms' = [m] ∧ 0 ≤ lim1 ∧ lim1 ≤ 100 ∧ OI m v d' ∧ PermIn a1 b1 d0 d') ?_ (fun s h ms hI => ?_)
      · skip
        refine ws_seq ?_
        refine ws_region ?_
        refine wl_x (ox_move rfl rfl) rfl rfl rfl ?_
        refine wl_x (ox_not rfl rfl) rfl rfl rfl ?_
        refine wl_nil ?_
        refine nx_then ?_
        refine ws_cond rfl (fun hnb => ?_) (fun hnb => ?_)
        · skip
          refine ws_seq ?_
          refine ws_region ?_
          refine wl_x (ox_move rfl rfl) rfl rfl rfl ?_
          refine wl_x (ox_move rfl rfl) rfl rfl rfl ?_
          refine wl_x (ox_move rfl rfl) rfl rfl rfl ?_
          refine wl_call_ (pre := [m0]) rfl Try.call55 rfl (breakPatterns_ok d0 v m0 hO0 a1 b1 (by omega) (by omega) (by omega) _ (by omega) (by omega)) rfl rfl rfl rfl (fun _ _ _ _ hL => ?_)
          obtain ⟨rfl, m1, rfl, hO1⟩ := hL
          refine wl_nil ?_
          refine nx_then ?_
          refine ws_region ?_
          refine wl_x (ox_move rfl rfl) rfl rfl rfl ?_
          refine wl_x (ox_sub rfl rfl rfl (by omega)) rfl rfl rfl ?_
          refine wl_x (ox_assign rfl rfl) rfl rfl rfl ?_
          refine wl_nil ?_
          refine nx_meet _ ⟨lim - 1, _, m1, rfl, rfl, rfl, by omega, by omega, hO1, breakPatterns_holds d0 a1 b1 hab1 (by omega)⟩ (by repeat (first | exact trivial | refine ⟨rfl, ?_⟩))
        · skip
          refine ws_skip ?_
          refine nx_meet _ ⟨lim, d0, m0, rfl, rfl, rfl, hm0, hm1, hO0, permIn_refl d0 a1 b1⟩ (by repeat (first | exact trivial | refine ⟨rfl, ?_⟩))
      · skip
        obtain ⟨lim1, d2, m2, rfl, rfl, rfl, hl2, hl3, hO2, hP2⟩ := hI
        have hs2 := hP2.1
        have hcp := choosePivot_holds ltInt d2 a1 b1 (by omega)
        refine ws_seq ?_
        refine ws_region ?_
        refine wl_x (ox_move rfl rfl) rfl rfl rfl ?_
        refine wl_x (ox_move rfl rfl) rfl rfl rfl ?_
        refine wl_x (ox_move rfl rfl) rfl rfl rfl ?_
        refine wl_call_ (pre := [m2]) rfl Try.call56 rfl (choosePivot_ok d2 v m2 hO2 a1 b1 (by omega) (by omega) (by omega) _ (by omega) (by omega)) rfl rfl rfl rfl (fun _ _ _ _ hL => ?_)
        obtain ⟨rfl, rfl, rfl⟩ := hL
        generalize hc : choosePivot ltInt d2 a1 b1 = c at hcp ⊢
        obtain ⟨pv, hint⟩ := c
        refine wl_x (ox_move rfl rfl) rfl rfl rfl ?_
        refine wl_x (ox_extract rfl rfl rfl) rfl rfl rfl ?_
        refine wl_x (ox_extract rfl rfl rfl) rfl rfl rfl ?_
        refine wl_x (ox_assign rfl rfl) rfl rfl rfl ?_
        refine wl_x (ox_assign rfl rfl) rfl rfl rfl ?_
        refine wl_nil ?_
        refine nx_then ?_
        refine ws_cut (fun s h' ms' => ∃ (p : Nat) (z hv : Int) (d' : Array Int) (m : Hp), s = [(0, v), (1, .int .i64 x), (2, .int .i64 y), (3, .int .i64 lim1), (8, .bool wb), (9, .bool wp), (10, .int .i64 (y - x)), (11, .int .i64 z), (12, .int .i64 hv)] ∧ h = h' ∧ ms' = [m] ∧ z = p ∧ a1 ≤ p ∧ p < b1 ∧ OI m v d' ∧ PermIn a1 b1 d0 d') ?_ (fun s h ms hI => ?_)
        · skip
          refine ws_seq ?_
          refine ws_region ?_
          refine wl_x (ox_move rfl rfl) rfl rfl rfl ?_
          refine wl_x (ox_eqi rfl rfl rfl) rfl rfl rfl ?_
          refine wl_nil ?_
          refine nx_then ?_
          refine ws_if rfl (fun hdec => ?_) (fun hdec => ?_)
          · skip
            refine ws_seq ?_
            refine ws_region ?_
            refine wl_x (ox_move rfl rfl) rfl rfl rfl ?_
            refine wl_x (ox_move rfl rfl) rfl rfl rfl ?_
            refine wl_x (ox_move rfl rfl) rfl rfl rfl ?_
            refine wl_call_ (pre := [m2]) rfl Try.call57 rfl (reverseRange_ok d2 v m2 hO2 a1 b1 (by omega) (by omega) (by omega) _ (by omega) (by omega)) rfl rfl rfl rfl (fun _ _ _ _ hL => ?_)
            obtain ⟨rfl, m3, rfl, hO3⟩ := hL
            refine wl_nil ?_
            refine nx_then ?_
            refine ws_seq ?_
            refine ws_region ?_
            refine wl_x (ox_move rfl rfl) rfl rfl rfl ?_
            refine wl_x (ox_sub rfl rfl rfl (by omega)) rfl rfl rfl ?_
            refine wl_x (ox_move rfl rfl) rfl rfl rfl ?_
            refine wl_x (ox_move rfl rfl) rfl rfl rfl ?_
            refine wl_x (ox_sub rfl rfl rfl (by omega)) rfl rfl rfl ?_
            refine wl_x (ox_sub rfl rfl rfl (by omega)) rfl rfl rfl ?_
            refine wl_x (ox_assign rfl rfl) rfl rfl rfl ?_
            refine wl_nil ?_
            refine nx_then ?_
            refine ws_region ?_
            refine wl_x (ox_assign rfl rfl) rfl rfl rfl ?_
            refine wl_nil ?_
            refine nx_meet _ ⟨(b1 - 1) - (pv - a1), y - 1 - (pv - x), 1, _, m3, rfl, rfl, rfl, by omega, by omega, by omega, hO3, permIn_trans _ _ _ _ _ hP2 (reverseRange_holds d2 a1 b1 hab1 (by omega))⟩ (by repeat (first | exact trivial | refine ⟨rfl, ?_⟩))
          · skip
            refine ws_skip ?_
            refine nx_meet _ ⟨pv, pv, hintV hint, d2, m2, rfl, rfl, rfl, rfl, hcp.1, hcp.2, hO2, hP2⟩ (by repeat (first | exact trivial | refine ⟨rfl, ?_⟩))
        · skip
          obtain ⟨p, z, hv, d3, m3, rfl, rfl, rfl, hz, hpa, hpb, hO3, hP3⟩ := hI
          have hs3 := hP3.1
          have hB3 := Sort.Below.perm hB0 (by omega) hP3
          clear hO2 hP2 hs2 hcp hc hO0
          refine ws_cut (fun s h' ms' => ∃ (d' : Array Int) (m : Hp), s = [(0, v), (1, .int .i64 x), (2, .int .i64 y), (3, .int .i64 lim1), (8, .bool wb), (9, .bool wp), (10, .int .i64 (y - x)), (11, .int .i64 z)] ∧ h = h' ∧ ms' = [m] ∧ OI m v d' ∧ PermIn a1 b1 d0 d') ?_ (fun s h ms hI => ?_)
          · skip
            refine ws_seq ?_
            refine ws_region ?_
            refine wl_x (ox_move rfl rfl) rfl rfl rfl ?_
            refine wl_x (ox_move rfl rfl) rfl rfl rfl ?_
            refine wl_splitb (t := 62) rfl (fun h1 => ?_) (fun h1 => ?_)
            · skip
              refine wl_gx (ox_move rfl rfl) rfl rfl rfl rfl rfl rfl ?_
              refine wl_x (ox_pick_t rfl rfl rfl) rfl rfl rfl ?_
              refine wl_x (ox_move rfl rfl) rfl rfl rfl ?_
              refine wl_splitb (t := 65) rfl (fun h2 => ?_) (fun h2 => ?_)
              · skip
                refine wl_gx (ox_move rfl rfl) rfl rfl rfl rfl rfl rfl ?_
                refine wl_gx (ox_eqi rfl rfl rfl) rfl rfl rfl rfl rfl rfl ?_
                refine wl_x (ox_pick_t rfl rfl rfl) rfl rfl rfl ?_
                refine wl_nil ?_
                refine nx_then ?_
                refine ws_if rfl (fun hh => ?_) (fun hh => ?_)
                · skip
                  refine ws_seq ?_
                  refine ws_region ?_
                  refine wl_x (ox_move rfl rfl) rfl rfl rfl ?_
                  refine wl_x (ox_move rfl rfl) rfl rfl rfl ?_
                  refine wl_x (ox_move rfl rfl) rfl rfl rfl ?_
                  refine wl_call_ (pre := [m3]) rfl Try.call58 rfl (partialIns_ok d3 v m3 hO3 a1 b1 (by omega) (by omega) (by omega) _ (by omega) (by omega)) rfl rfl rfl rfl (fun _ _ _ _ hL => ?_)
                  obtain ⟨rfl, rfl, m4, rfl, hO4⟩ := hL
                  obtain ⟨p1, p2⟩ := partialInsertionSort_holds swo_ltInt d3 a1 b1 (by omega) (by omega) hB3
                  refine wl_nil ?_
                  refine nx_then ?_
                  refine ws_cond rfl (fun hr => ?_) (fun hr => ?_)
                  · skip
                    obtain ⟨q1, q2⟩ := hfin _ (permIn_trans _ _ _ _ _ hP3 p1) (p2 hr)
                    refine ws_ret ?_
                    refine nx_then_ret ?_
                    refine nx_block_ret ?_
                    refine nx_then_ret ?_
                    refine nx_block_ret ?_
                    exact nx_ret0 rfl (⟨rfl, _, m4, rfl, hO4, q1, q2⟩)
                  · skip
                    refine ws_skip ?_
                    refine nx_meet _ ⟨_, m4, rfl, rfl, rfl, hO4, permIn_trans _ _ _ _ _ hP3 p1⟩ (by repeat (first | exact trivial | refine ⟨rfl, ?_⟩))
                · skip
                  refine ws_skip ?_
                  refine nx_meet _ ⟨d3, m3, rfl, rfl, rfl, hO3, hP3⟩ (by repeat (first | exact trivial | refine ⟨rfl, ?_⟩))
              · skip
                refine wl_skip rfl rfl rfl rfl rfl rfl rfl ?_
                refine wl_skip rfl rfl rfl rfl rfl rfl rfl ?_
                refine wl_x (ox_pick_f rfl rfl rfl) rfl rfl rfl ?_
                refine wl_nil ?_
                refine nx_then ?_
                refine ws_cond_f rfl ?_
                refine ws_skip ?_
                refine nx_meet _ ⟨d3, m3, rfl, rfl, rfl, hO3, hP3⟩ (by repeat (first | exact trivial | refine ⟨rfl, ?_⟩))
            · skip
              refine wl_skip rfl rfl rfl rfl rfl rfl rfl ?_
              refine wl_x (ox_pick_f rfl rfl rfl) rfl rfl rfl ?_
              refine wl_x (ox_move rfl rfl) rfl rfl rfl ?_
              refine wl_skip rfl rfl rfl rfl rfl rfl rfl ?_
              refine wl_skip rfl rfl rfl rfl rfl rfl rfl ?_
              refine wl_x (ox_pick_f rfl rfl rfl) rfl rfl rfl ?_
              refine wl_nil ?_
              refine nx_then ?_
              refine ws_cond_f rfl ?_
              refine ws_skip ?_
              refine nx_meet _ ⟨d3, m3, rfl, rfl, rfl, hO3, hP3⟩ (by repeat (first | exact trivial | refine ⟨rfl, ?_⟩))
          · skip
            obtain ⟨d4, m4, rfl, rfl, rfl, hO4, hP4⟩ := hI
            have hs4 := hP4.1
            have hB4 := Sort.Below.perm hB0 (by omega) hP4
            have hcomp : ∀ R, PermIn a1 b1 d4 R → SortedIn ltInt a1 b1 R → PermIn a b d R ∧ SortedIn ltInt a b R := fun R r1 r2 => hfin R (permIn_trans _ _ _ _ _ hP4 r1) r2
            clear hO3 hP3 hs3 hB3 hfin hP4
            refine ws_seq ?_
            refine ws_seq ?_
            refine ws_draw 12 fol (by kernel_rfl) rfl ?_
            simp only [List.take_succ_cons, List.take_zero, List.drop_succ_cons, List.drop_zero, List.take_nil, List.drop_nil]
            refine wr_x (ox_move rfl rfl) rfl rfl ?_
            refine wr_x (ox_gtr rfl rfl rfl) rfl rfl ?_
            refine wr_x (ox_move rfl rfl) rfl rfl ?_
            refine wr_split (t := 75) rfl (fun h0 => ?_) (fun h0 => ?_)
            · skip
              refine wr_gx (ox_move rfl rfl) rfl rfl rfl rfl ?_
              refine wr_gx (ox_move rfl rfl) rfl rfl rfl rfl ?_
              refine wr_gx (ox_sub rfl rfl rfl (by omega)) rfl rfl rfl rfl ?_
              first | refine wr_gx (ox_index (a1 - 1) rfl Try.underlying23 el3 rfl rfl (by omega) (by omega)) rfl rfl rfl rfl ?_ | refine wr_gx (ox_indexR (a1 - 1) (hO4.rd (.head _)) rfl Try.underlying23 el3 rfl rfl (by omega) (by omega)) rfl rfl rfl rfl ?_
              refine wr_gx (ox_load rfl Try.underlying3 rfl rfl (by first | exact hO4.get (.head _) (by omega))) rfl rfl rfl rfl ?_
              refine wr_gx (ox_move rfl rfl) rfl rfl rfl rfl ?_
              refine wr_gx (ox_move rfl rfl) rfl rfl rfl rfl ?_
              first | refine wr_gx (ox_index p rfl Try.underlying23 el3 rfl rfl (by omega) (by omega)) rfl rfl rfl rfl ?_ | refine wr_gx (ox_indexR p (hO4.rd (.head _)) rfl Try.underlying23 el3 rfl rfl (by omega) (by omega)) rfl rfl rfl rfl ?_
              refine wr_gx (ox_load rfl Try.underlying3 rfl rfl (by first | exact hO4.get (.head _) (by omega))) rfl rfl rfl rfl ?_
              refine wr_nil ?_
              refine wl_gx (ox_call rfl Try.call59 rfl (less_ok _ _ _ _)) rfl rfl rfl rfl rfl rfl ?_
              refine wl_gx (ox_not rfl rfl) rfl rfl rfl rfl rfl rfl ?_
              refine wl_x (ox_pick_t rfl rfl rfl) rfl rfl rfl ?_
              refine wl_nil ?_
              refine nx_then ?_
              refine ws_cond rfl (fun hnl => ?_) (fun hnl => ?_)
              · skip
                refine ws_seq ?_
                refine ws_region ?_
                refine wl_x (ox_move rfl rfl) rfl rfl rfl ?_
                refine wl_x (ox_move rfl rfl) rfl rfl rfl ?_
                refine wl_x (ox_move rfl rfl) rfl rfl rfl ?_
                refine wl_x (ox_move rfl rfl) rfl rfl rfl ?_
                refine wl_call_ (pre := [m4]) rfl Try.call60 rfl (partitionEqual_ok d4 v m4 hO4 a1 b1 p (by omega) (by omega) (by omega) (by omega) _ (by omega) (by omega) (by omega)) rfl rfl rfl rfl (fun _ _ _ _ hL => ?_)
                obtain ⟨rfl, rfl, m5, rfl, hO5⟩ := hL
                obtain ⟨q1, q2, q3, q4, q5⟩ := round_eq swo_ltInt (partitionEqual_holds _) (d3 := d4) (d4 := (partitionEqual ltInt d4 a1 b1 p).2) (mid := (partitionEqual ltInt d4 a1 b1 p).1) (by omega) hpa hpb (by omega) hB4 (by simpa using hnl) rfl
                refine wl_x (ox_assign rfl rfl) rfl rfl rfl ?_
                refine wl_nil ?_
                refine nx_then ?_
                refine ws_seq ?_
                refine ws_region ?_
                refine wl_x (ox_move rfl rfl) rfl rfl rfl ?_
                refine wl_x (ox_assign rfl rfl) rfl rfl rfl ?_
                refine wl_nil ?_
                refine nx_then ?_
                refine ws_exit ?_
                refine nx_then_exit ?_
                refine nx_block_exit ?_
                refine nx_round (b1 - (partitionEqual ltInt d4 a1 b1 p).1) _ (by omega) ⟨_, b1, _, y, lim1, wb, wp, _, m5, rfl, rfl, rfl, rfl, rfl, by omega, hl2, hl3, q2, by omega, hO5, by omega, by omega, q4, fun R r1 r2 => hcomp R (q5 R r1 r2).1 (q5 R r1 r2).2⟩ (by repeat (first | exact trivial | refine ⟨rfl, ?_⟩))
              · skip
                refine ws_skip ?_
                refine nx_then ?_
                refine ws_seq ?_
                refine ws_region ?_
                refine wl_x (ox_move rfl rfl) rfl rfl rfl ?_
                refine wl_x (ox_move rfl rfl) rfl rfl rfl ?_
                refine wl_x (ox_move rfl rfl) rfl rfl rfl ?_
                refine wl_x (ox_move rfl rfl) rfl rfl rfl ?_
                refine wl_call_ (pre := [m4]) rfl Try.call61 rfl (partition_ok d4 v m4 hO4 a1 b1 p (by omega) (by omega) (by omega) (by omega) _ (by omega) (by omega) (by omega)) rfl rfl rfl rfl (fun _ _ _ _ hL => ?_)
                obtain ⟨rfl, rfl, m5, rfl, hO5⟩ := hL
                obtain ⟨q1, q2, q3, q4, q5, q6, q7⟩ := round_part swo_ltInt (partition_holds _) (d3 := d4) (d4 := (Sort.partition ltInt d4 a1 b1 p).2.2) (mid := (Sort.partition ltInt d4 a1 b1 p).1) (ap := (Sort.partition ltInt d4 a1 b1 p).2.1) hpa hpb (by omega) hB4 rfl
                generalize hF : Sort.partition ltInt d4 a1 b1 p = F at q1 q2 q3 q4 q5 q6 q7 hO5 ⊢
                obtain ⟨mid, ap, d5⟩ := F
                clear hF
                have q1 : a1 ≤ mid := q1
                have q2 : mid < b1 := q2
                have q3 : d5.size = d4.size := q3
                refine wl_x (ox_move rfl rfl) rfl rfl rfl ?_
                refine wl_x (ox_extract rfl rfl rfl) rfl rfl rfl ?_
                refine wl_x (ox_extract rfl rfl rfl) rfl rfl rfl ?_
                refine wl_x (ox_assign rfl rfl) rfl rfl rfl ?_
                refine wl_x (ox_assign rfl rfl) rfl rfl rfl ?_
                refine wl_nil ?_
                refine nx_then ?_
                refine ws_seq ?_
                refine ws_region ?_
                refine wl_x (ox_move rfl rfl) rfl rfl rfl ?_
                refine wl_x (ox_assign rfl rfl) rfl rfl rfl ?_
                refine wl_nil ?_
                refine nx_then ?_
                refine ws_seq ?_
                refine ws_region ?_
                refine wl_x (ox_move rfl rfl) rfl rfl rfl ?_
                refine wl_x (ox_move rfl rfl) rfl rfl rfl ?_
                refine wl_x (ox_sub rfl rfl rfl (by omega)) rfl rfl rfl ?_
                refine wl_x (ox_move rfl rfl) rfl rfl rfl ?_
                refine wl_x (ox_move rfl rfl) rfl rfl rfl ?_
                refine wl_x (ox_sub rfl rfl rfl (by omega)) rfl rfl rfl ?_
                refine wl_x (ox_assign rfl rfl) rfl rfl rfl ?_
                refine wl_x (ox_assign rfl rfl) rfl rfl rfl ?_
                refine wl_nil ?_
                refine nx_then ?_
                refine ws_seq ?_
                refine ws_region ?_
                refine wl_x (ox_move rfl rfl) rfl rfl rfl ?_
                first | refine wl_x (ox_quoP rfl rfl rfl (by omega) (by omega)) rfl rfl rfl ?_ | refine wl_x (ox_quo rfl rfl rfl (by omega) (by omega)) rfl rfl rfl ?_
                refine wl_x (ox_assign rfl rfl) rfl rfl rfl ?_
                refine wl_nil ?_
                refine nx_then ?_
                refine ws_seq ?_
                refine ws_region ?_
                refine wl_x (ox_move rfl rfl) rfl rfl rfl ?_
                refine wl_x (ox_move rfl rfl) rfl rfl rfl ?_
                refine wl_x (ox_lss rfl rfl rfl) rfl rfl rfl ?_
                refine wl_nil ?_
                refine nx_then ?_
                refine ws_if rfl (fun hlr => ?_) (fun hlr => ?_)
                · skip
                  refine ws_seq ?_
                  refine ws_region ?_
                  refine wl_x (ox_move rfl rfl) rfl rfl rfl ?_
                  refine wl_x (ox_move rfl rfl) rfl rfl rfl ?_
                  refine wl_x (ox_geq rfl rfl rfl) rfl rfl rfl ?_
                  refine wl_x (ox_assign rfl rfl) rfl rfl rfl ?_
                  refine wl_nil ?_
                  refine nx_then ?_
                  refine ws_seq ?_
                  refine ws_region ?_
                  refine wl_x (ox_move rfl rfl) rfl rfl rfl ?_
                  refine wl_x (ox_move rfl rfl) rfl rfl rfl ?_
                  refine wl_x (ox_move rfl rfl) rfl rfl rfl ?_
                  refine wl_x (ox_move rfl rfl) rfl rfl rfl ?_
                  refine wl_call_ (pre := [m5]) rfl Try.call46 rfl (ih (mid - a1) (by omega) d5 v m5 hO5 a1 mid lim1 (Nat.le_refl _) (by omega) (by omega) (by omega) q4 hl2 hl3 _ (by omega) (by omega)) rfl rfl rfl rfl (fun _ _ _ _ hL => ?_)
                  obtain ⟨rfl, d6, m6, rfl, hO6, r1, r2⟩ := hL
                  have hs6 := r1.1
                  obtain ⟨s1, s2⟩ := q6 d6 r1 r2
                  refine wl_nil ?_
                  refine nx_then ?_
                  refine ws_region ?_
                  refine wl_x (ox_move rfl rfl) rfl rfl rfl ?_
                  refine wl_x (ox_add rfl rfl rfl (by omega)) rfl rfl rfl ?_
                  refine wl_x (ox_assign rfl rfl) rfl rfl rfl ?_
                  refine wl_nil ?_
                  refine nx_block ?_
                  refine nx_round (b1 - (mid + 1)) _ (by omega) ⟨mid + 1, b1, _, y, lim1, _, ap, d6, m6, rfl, rfl, rfl, rfl, rfl, by omega, hl2, hl3, by omega, by omega, hO6, by omega, by omega, s1, fun R r1 r2 => hcomp R (s2 R r1 r2).1 (s2 R r1 r2).2⟩ (by repeat (first | exact trivial | refine ⟨rfl, ?_⟩))
                · skip
                  refine ws_seq ?_
                  refine ws_region ?_
                  refine wl_x (ox_move rfl rfl) rfl rfl rfl ?_
                  refine wl_x (ox_move rfl rfl) rfl rfl rfl ?_
                  refine wl_x (ox_geq rfl rfl rfl) rfl rfl rfl ?_
                  refine wl_x (ox_assign rfl rfl) rfl rfl rfl ?_
                  refine wl_nil ?_
                  refine nx_then ?_
                  refine ws_seq ?_
                  refine ws_region ?_
                  refine wl_x (ox_move rfl rfl) rfl rfl rfl ?_
                  refine wl_x (ox_move rfl rfl) rfl rfl rfl ?_
                  refine wl_x (ox_add rfl rfl rfl (by omega)) rfl rfl rfl ?_
                  refine wl_x (ox_move rfl rfl) rfl rfl rfl ?_
                  refine wl_x (ox_move rfl rfl) rfl rfl rfl ?_
                  refine wl_call_ (pre := [m5]) rfl Try.call46 rfl (ih (b1 - (mid + 1)) (by omega) d5 v m5 hO5 (mid + 1) b1 lim1 (Nat.le_refl _) (by omega) (by omega) (by omega) q5 hl2 hl3 _ (by omega) (by omega)) rfl rfl rfl rfl (fun _ _ _ _ hL => ?_)
                  obtain ⟨rfl, d6, m6, rfl, hO6, r1, r2⟩ := hL
                  have hs6 := r1.1
                  obtain ⟨s1, s2⟩ := q7 d6 r1 r2
                  refine wl_nil ?_
                  refine nx_then ?_
                  refine ws_region ?_
                  refine wl_x (ox_move rfl rfl) rfl rfl rfl ?_
                  refine wl_x (ox_assign rfl rfl) rfl rfl rfl ?_
                  refine wl_nil ?_
                  refine nx_block ?_
                  refine nx_round (mid - a1) _ (by omega) ⟨a1, mid, x, _, lim1, _, ap, d6, m6, rfl, rfl, rfl, rfl, hx, rfl, hl2, hl3, by omega, by omega, hO6, by omega, by omega, s1, fun R r1 r2 => hcomp R (s2 R r1 r2).1 (s2 R r1 r2).2⟩ (by repeat (first | exact trivial | refine ⟨rfl, ?_⟩))
            · skip
              refine wr_skip rfl rfl rfl rfl rfl ?_
              refine wr_skip rfl rfl rfl rfl rfl ?_
              refine wr_skip rfl rfl rfl rfl rfl ?_
              refine wr_skip rfl rfl rfl rfl rfl ?_
              refine wr_skip rfl rfl rfl rfl rfl ?_
              refine wr_skip rfl rfl rfl rfl rfl ?_
              refine wr_skip rfl rfl rfl rfl rfl ?_
              refine wr_skip rfl rfl rfl rfl rfl ?_
              refine wr_skip rfl rfl rfl rfl rfl ?_
              refine wr_nil ?_
              refine wl_skip rfl rfl rfl rfl rfl rfl rfl ?_
              refine wl_skip rfl rfl rfl rfl rfl rfl rfl ?_
              refine wl_x (ox_pick_f rfl rfl rfl) rfl rfl rfl ?_
              refine wl_nil ?_
              refine nx_then ?_
              refine ws_cond_f rfl ?_
              refine ws_skip ?_
              refine nx_then ?_
              refine ws_seq ?_
              refine ws_region ?_
              refine wl_x (ox_move rfl rfl) rfl rfl rfl ?_
              refine wl_x (ox_move rfl rfl) rfl rfl rfl ?_
              refine wl_x (ox_move rfl rfl) rfl rfl rfl ?_
              refine wl_x (ox_move rfl rfl) rfl rfl rfl ?_
              refine wl_call_ (pre := [m4]) rfl Try.call61 rfl (partition_ok d4 v m4 hO4 a1 b1 p (by omega) (by omega) (by omega) (by omega) _ (by omega) (by omega) (by omega)) rfl rfl rfl rfl (fun _ _ _ _ hL => ?_)
              obtain ⟨rfl, rfl, m5, rfl, hO5⟩ := hL
              obtain ⟨q1, q2, q3, q4, q5, q6, q7⟩ := round_part swo_ltInt (partition_holds _) (d3 := d4) (d4 := (Sort.partition ltInt d4 a1 b1 p).2.2) (mid := (Sort.partition ltInt d4 a1 b1 p).1) (ap := (Sort.partition ltInt d4 a1 b1 p).2.1) hpa hpb (by omega) hB4 rfl
              generalize hF : Sort.partition ltInt d4 a1 b1 p = F at q1 q2 q3 q4 q5 q6 q7 hO5 ⊢
              obtain ⟨mid, ap, d5⟩ := F
              clear hF
              have q1 : a1 ≤ mid := q1
              have q2 : mid < b1 := q2
              have q3 : d5.size = d4.size := q3
              refine wl_x (ox_move rfl rfl) rfl rfl rfl ?_
              refine wl_x (ox_extract rfl rfl rfl) rfl rfl rfl ?_
              refine wl_x (ox_extract rfl rfl rfl) rfl rfl rfl ?_
              refine wl_x (ox_assign rfl rfl) rfl rfl rfl ?_
              refine wl_x (ox_assign rfl rfl) rfl rfl rfl ?_
              refine wl_nil ?_
              refine nx_then ?_
              refine ws_seq ?_
              refine ws_region ?_
              refine wl_x (ox_move rfl rfl) rfl rfl rfl ?_
              refine wl_x (ox_assign rfl rfl) rfl rfl rfl ?_
              refine wl_nil ?_
              refine nx_then ?_
              refine ws_seq ?_
              refine ws_region ?_
              refine wl_x (ox_move rfl rfl) rfl rfl rfl ?_
              refine wl_x (ox_move rfl rfl) rfl rfl rfl ?_
              refine wl_x (ox_sub rfl rfl rfl (by omega)) rfl rfl rfl ?_
              refine wl_x (ox_move rfl rfl) rfl rfl rfl ?_
              refine wl_x (ox_move rfl rfl) rfl rfl rfl ?_
              refine wl_x (ox_sub rfl rfl rfl (by omega)) rfl rfl rfl ?_
              refine wl_x (ox_assign rfl rfl) rfl rfl rfl ?_
              refine wl_x (ox_assign rfl rfl) rfl rfl rfl ?_
              refine wl_nil ?_
              refine nx_then ?_
              refine ws_seq ?_
              refine ws_region ?_
              refine wl_x (ox_move rfl rfl) rfl rfl rfl ?_
              first | refine wl_x (ox_quoP rfl rfl rfl (by omega) (by omega)) rfl rfl rfl ?_ | refine wl_x (ox_quo rfl rfl rfl (by omega) (by omega)) rfl rfl rfl ?_
              refine wl_x (ox_assign rfl rfl) rfl rfl rfl ?_
              refine wl_nil ?_
              refine nx_then ?_
              refine ws_seq ?_
              refine ws_region ?_
              refine wl_x (ox_move rfl rfl) rfl rfl rfl ?_
              refine wl_x (ox_move rfl rfl) rfl rfl rfl ?_
              refine wl_x (ox_lss rfl rfl rfl) rfl rfl rfl ?_
              refine wl_nil ?_
              refine nx_then ?_
              refine ws_if rfl (fun hlr => ?_) (fun hlr => ?_)
              · skip
                refine ws_seq ?_
                refine ws_region ?_
                refine wl_x (ox_move rfl rfl) rfl rfl rfl ?_
                refine wl_x (ox_move rfl rfl) rfl rfl rfl ?_
                refine wl_x (ox_geq rfl rfl rfl) rfl rfl rfl ?_
                refine wl_x (ox_assign rfl rfl) rfl rfl rfl ?_
                refine wl_nil ?_
                refine nx_then ?_
                refine ws_seq ?_
                refine ws_region ?_
                refine wl_x (ox_move rfl rfl) rfl rfl rfl ?_
                refine wl_x (ox_move rfl rfl) rfl rfl rfl ?_
                refine wl_x (ox_move rfl rfl) rfl rfl rfl ?_
                refine wl_x (ox_move rfl rfl) rfl rfl rfl ?_
                refine wl_call_ (pre := [m5]) rfl Try.call46 rfl (ih (mid - a1) (by omega) d5 v m5 hO5 a1 mid lim1 (Nat.le_refl _) (by omega) (by omega) (by omega) q4 hl2 hl3 _ (by omega) (by omega)) rfl rfl rfl rfl (fun _ _ _ _ hL => ?_)
                obtain ⟨rfl, d6, m6, rfl, hO6, r1, r2⟩ := hL
                have hs6 := r1.1
                obtain ⟨s1, s2⟩ := q6 d6 r1 r2
                refine wl_nil ?_
                refine nx_then ?_
                refine ws_region ?_
                refine wl_x (ox_move rfl rfl) rfl rfl rfl ?_
                refine wl_x (ox_add rfl rfl rfl (by omega)) rfl rfl rfl ?_
                refine wl_x (ox_assign rfl rfl) rfl rfl rfl ?_
                refine wl_nil ?_
                refine nx_block ?_
                refine nx_round (b1 - (mid + 1)) _ (by omega) ⟨mid + 1, b1, _, y, lim1, _, ap, d6, m6, rfl, rfl, rfl, rfl, rfl, by omega, hl2, hl3, by omega, by omega, hO6, by omega, by omega, s1, fun R r1 r2 => hcomp R (s2 R r1 r2).1 (s2 R r1 r2).2⟩ (by repeat (first | exact trivial | refine ⟨rfl, ?_⟩))
              · skip
                refine ws_seq ?_
                refine ws_region ?_
                refine wl_x (ox_move rfl rfl) rfl rfl rfl ?_
                refine wl_x (ox_move rfl rfl) rfl rfl rfl ?_
                refine wl_x (ox_geq rfl rfl rfl) rfl rfl rfl ?_
                refine wl_x (ox_assign rfl rfl) rfl rfl rfl ?_
                refine wl_nil ?_
                refine nx_then ?_
                refine ws_seq ?_
                refine ws_region ?_
                refine wl_x (ox_move rfl rfl) rfl rfl rfl ?_
                refine wl_x (ox_move rfl rfl) rfl rfl rfl ?_
                refine wl_x (ox_add rfl rfl rfl (by omega)) rfl rfl rfl ?_
                refine wl_x (ox_move rfl rfl) rfl rfl rfl ?_
                refine wl_x (ox_move rfl rfl) rfl rfl rfl ?_
                refine wl_call_ (pre := [m5]) rfl Try.call46 rfl (ih (b1 - (mid + 1)) (by omega) d5 v m5 hO5 (mid + 1) b1 lim1 (Nat.le_refl _) (by omega) (by omega) (by omega) q5 hl2 hl3 _ (by omega) (by omega)) rfl rfl rfl rfl (fun _ _ _ _ hL => ?_)
                obtain ⟨rfl, d6, m6, rfl, hO6, r1, r2⟩ := hL
                have hs6 := r1.1
                obtain ⟨s1, s2⟩ := q7 d6 r1 r2
                refine wl_nil ?_
                refine nx_then ?_
                refine ws_region ?_
                refine wl_x (ox_move rfl rfl) rfl rfl rfl ?_
                refine wl_x (ox_assign rfl rfl) rfl rfl rfl ?_
                refine wl_nil ?_
                refine nx_block ?_
                refine nx_round (mid - a1) _ (by omega) ⟨a1, mid, x, _, lim1, _, ap, d6, m6, rfl, rfl, rfl, rfl, hx, rfl, hl2, hl3, by omega, by omega, hO6, by omega, by omega, s1, fun R r1 r2 => hcomp R (s2 R r1 r2).1 (s2 R r1 r2).2⟩ (by repeat (first | exact trivial | refine ⟨rfl, ?_⟩))

/-- The integers in order. -/
def isort (l : List Int) : List Int := l.mergeSort fun x y => decide (x ≤ y)
theorem isort_perm (l : List Int) : (isort l).Perm l := List.mergeSort_perm l _
theorem isort_sorted (l : List Int) : (isort l).Pairwise (· ≤ ·) := by
  have := List.pairwise_mergeSort (le := fun x y : Int => decide (x ≤ y)) (fun a b c => by simp; omega) (fun a b => by simp; omega) l
  exact this.imp fun h => by simpa using h

theorem sort_ok (l : List Int) (v : Value) (m : Hp) (hO : OwnL cI 1 3 m v l) (hl : l.length ≤ 2305843009213693951) (h : Hp) :
    FnT Try.prog 28 #[v] h [m] (fun _ h' ms' => h = h' ∧ ∃ m', ms' = [m'] ∧ OwnL cI 1 3 m' v (isort l)) := by
  have hO0 : OI m v l.toArray := hO
  have hlen : l.toArray.size = l.length := rfl
  refine fn_enter Try.func28 Try.ntmps28 rfl rfl (fun w0 hw0 => ?_)
  simp only [argS]
  refine ws_seq ?_
  refine ws_region ?_
  refine wl_x (ox_move rfl rfl) rfl rfl rfl ?_
  first | refine wl_x (ox_len (ty := 23) rfl Try.underlying23 rfl) rfl rfl rfl ?_ | refine wl_x (ox_lenR (hO0.rd (.head _)) rfl Try.underlying23 rfl) rfl rfl rfl ?_
  refine wl_x (ox_assign rfl rfl) rfl rfl rfl ?_
  refine wl_nil ?_
  refine nx_then ?_
  refine ws_region ?_
  refine wl_x (ox_move rfl rfl) rfl rfl rfl ?_
  refine wl_x (ox_move rfl rfl) rfl rfl rfl ?_
  refine wl_x (ox_move rfl rfl) rfl rfl rfl ?_
  refine wl_x (ox_conv rfl Try.underlying3 Try.underlying69 rfl (wrap_u64 (by omega))) rfl rfl rfl ?_
  refine wl_x (ox_call rfl Try.call47 rfl (bitsLen_ok l.length (by omega) _ _ (by simp))) rfl rfl rfl ?_
  have hbl : bitsLen l.length ≤ 62 := (bitsLen_le_iff l.length 62).2 (by omega)
  refine wl_call_ (pre := [m]) rfl Try.call46 rfl (pdq_ok l.length l.toArray v m hO0 0 l.length (bitsLen l.length : Nat) (by omega) (by omega) (by omega) (by omega) (.inl rfl) (by omega) (by omega) _ rfl rfl) rfl rfl rfl rfl (fun _ _ _ _ hL => ?_)
  obtain ⟨rfl, d1, m1, rfl, hO1, r1, r2⟩ := hL
  have hE : d1.toList = isort l := by
    have := sorted_unique_holds swo_ltInt (fun x y h1 h2 => by simp [ltInt] at h1 h2; omega) l.toArray d1 r1 r2
    rw [this]
    unfold isort
    congr 1
    funext x y
    simp [ltInt]; rw [← decide_not]; congr 1; simp
  refine wl_nil ?_
  exact nx_end0 rfl (⟨rfl, m1, rfl, by rw [← hE]; exact hO1⟩)
end Go.Proofs.Ythdkhnjnhhofgaa
