/- Walks: are the long bars covered? -/
import Derived.Test.YthdkhnjnhhofgaaWj
import Derived.Test.YthdkhnjnhhofgaaEng13
set_option linter.unusedSimpArgs false
set_option linter.unusedVariables false
set_option maxRecDepth 100000
namespace Go.Proofs.Ythdkhnjnhhofgaa
open Go.Eng Go.RowKit Go.Kuhn

/-- Whose place counts: bar i is longer than the cost. -/
def longB (la : List Br) (cost : Int) (i : Nat) : Bool := if h : i < la.length then decide (cost < la[i].len) else false
def CPos (la lb : List Br) (cost : Int) : Prop := ∃ part : List Int, part.length = lb.length ∧ KPre (fitsR la lb cost) la.length part ∧ ∀ x : Nat, part.count (x : Int) = if x < la.length ∧ longB la cost x = true then 1 else 0
def CNeg (la lb : List Br) (cost : Int) : Prop := ∃ (i : Nat) (part : List Int) (seen : List Bool), i < la.length ∧ longB la cost i = true ∧ part.length = lb.length ∧ KPre (fitsR la lb cost) la.length part ∧ (∀ x : Nat, part.count (x : Int) = if x < i ∧ longB la cost x = true then 1 else 0) ∧ LI (fitsR la lb cost) i lb.length lb.length (List.replicate lb.length false) part seen

theorem own_repI (g n : Nat) (a : Int) (hn : n ≤ 9223372036854775807) : OwnL cI 1 3 (Blk g 3 (List.replicate n (Value.int .i64 a))) (.slice (some ⟨g, 0, none⟩) n n) (List.replicate n a) :=
  ⟨⟨by rw [← cI_rep]; simp, .inr ⟨g, n, [], by simp, by rw [← cI_rep]; simp, by rw [← cI_rep]; simp, by simp, hn⟩⟩, cI_len⟩
theorem rep_step (n k : Nat) (hk : k < n) : (List.replicate k (-1 : Int) ++ List.replicate (n - k) 0).set k (-1) = List.replicate (k + 1) (-1) ++ List.replicate (n - (k + 1)) 0 := by
  rw [List.set_append_right _ _ (by simp), List.length_replicate, Nat.sub_self]
  obtain ⟨j, hj⟩ : ∃ j, n - k = j + 1 := ⟨n - k - 1, by omega⟩
  rw [hj, List.replicate_succ, List.set_cons_zero, show n - (k + 1) = j by omega, ← List.replicate_append_replicate (n := k) (m := 1)]
  simp

theorem covered_ok (la lb : List Br) (va vb : Value) (cost : Int) (h : Hp) (hRa : RdL cBr 6 h [] va la) (hRb : RdL cBr 6 h [] vb lb) (hla : la.length ≤ 1000000) (hlb : lb.length ≤ 1000000) (hA : ∀ b ∈ la, BOk b) (hB : ∀ b ∈ lb, BOk b) :
    FnT Try.prog 42 #[va, vb, .int .i64 cost] h [] (fun r _ _ => ∃ b, r = .bool b ∧ (b = true → CPos la lb cost) ∧ (b = false → CNeg la lb cost)) := by
  refine fn_enter Try.func42 Try.ntmps42 rfl rfl (fun w0 hw0 => ?_)
  simp only [argS]
  refine ws_seq ?_
  refine ws_region ?_
  refine wl_x (ox_assign rfl rfl) rfl rfl rfl ?_
  refine wl_nil ?_
  refine nx_then ?_
  refine ws_seq ?_
  refine ws_region ?_
  refine wl_x (ox_move rfl rfl) rfl rfl rfl ?_
  first | refine wl_x (ox_len (ty := 25) rfl Try.underlying25 rfl) rfl rfl rfl ?_ | refine wl_x (ox_lenR hRa.rd.any rfl Try.underlying25 rfl) rfl rfl rfl ?_ | refine wl_x (ox_lenR hRb.rd.any rfl Try.underlying25 rfl) rfl rfl rfl ?_
  refine wl_make (n := lb.length) rfl Try.underlying23 el3 rfl rfl rfl (by first | rfl | omega) (by first | rfl | omega) (by omega) (by omega) rfl rfl rfl (fun g12 => ?_)
  refine wl_x (ox_assign rfl rfl) rfl rfl rfl ?_
  refine wl_nil ?_
  refine nx_then ?_
  refine ws_seq ?_
  refine ws_seq ?_
  refine ws_region ?_
  refine wl_x (ox_assign rfl rfl) rfl rfl rfl ?_
  refine wl_nil ?_
  refine nx_then ?_
  refine ws_block ?_
  refine ws_loop (fun q s h' ms' => ∃ (k : Nat) (m : Hp), q = lb.length - k ∧ s = [(0, va), (1, vb), (2, .int .i64 cost), (7, .slice (some ⟨g12, 0, none⟩) lb.length lb.length), (8, .int .i64 k)] ∧ h = h' ∧ ms' = [m] ∧ k ≤ lb.length ∧ OwnL cI 1 3 m (.slice (some ⟨g12, 0, none⟩) lb.length lb.length) (List.replicate k (-1) ++ List.replicate (lb.length - k) 0))
    (lb.length - 0) _ ⟨0, _, rfl, rfl, rfl, rfl, by omega, by simpa using own_repI g12 lb.length 0 (by omega)⟩ (by repeat (first | exact trivial | refine ⟨rfl, ?_⟩)) ?_
  rintro q s h' ms' ⟨k, m, rfl, rfl, rfl, rfl, hk, hO⟩
  refine ws_seq ?_
  refine ws_seq ?_
  refine ws_region ?_
  refine wl_x (ox_move rfl rfl) rfl rfl rfl ?_
  refine wl_x (ox_move rfl rfl) rfl rfl rfl ?_
  first | refine wl_x (ox_len (ty := 25) rfl Try.underlying25 rfl) rfl rfl rfl ?_ | refine wl_x (ox_lenR hRa.rd.any rfl Try.underlying25 rfl) rfl rfl rfl ?_ | refine wl_x (ox_lenR hRb.rd.any rfl Try.underlying25 rfl) rfl rfl rfl ?_
  refine wl_x (ox_lss rfl rfl rfl) rfl rfl rfl ?_
  refine wl_nil ?_
  refine nx_then ?_
  refine ws_if rfl (fun hlt => ?_) (fun hlt => ?_)
  · skip
    have hkn : k < lb.length := by omega
    have hst := rep_step lb.length k hkn
    refine ws_skip ?_
    refine nx_then ?_
    refine ws_seq ?_
    refine ws_block ?_
    refine ws_region ?_
    refine wl_x (ox_move rfl rfl) rfl rfl rfl ?_
    refine wl_x (ox_move rfl rfl) rfl rfl rfl ?_
    first | refine wl_x (ox_index _ rfl Try.underlying23 el3 rfl rfl rfl (by omega)) rfl rfl rfl ?_ | refine wl_x (ox_indexR _ hRa.rd.any rfl Try.underlying23 el3 rfl rfl rfl (by omega)) rfl rfl rfl ?_ | refine wl_x (ox_indexR _ hRb.rd.any rfl Try.underlying23 el3 rfl rfl rfl (by omega)) rfl rfl rfl ?_
    refine wl_storeL1 (F := cI) (f := fun x => .int .i64 x) (a := -1) 0 k (fun _ => rfl) hO rfl el3 rfl rfl rfl rfl (by simp; omega) rfl rfl (fun m2 hO2 => ?_)
    rw [hst] at hO2
    refine wl_nil ?_
    refine nx_block ?_
    refine nx_then ?_
    refine ws_region ?_
    refine wl_x (ox_move rfl rfl) rfl rfl rfl ?_
    refine wl_x (ox_add rfl rfl rfl (by omega)) rfl rfl rfl ?_
    refine wl_x (ox_assign rfl rfl) rfl rfl rfl ?_
    refine wl_nil ?_
    refine nx_round (lb.length - (k + 1)) _ (by omega) ⟨k + 1, m2, rfl, rfl, rfl, rfl, by omega, hO2⟩ (by repeat (first | exact trivial | refine ⟨rfl, ?_⟩))
  · skip
    have hkn : k = lb.length := by omega
    rw [hkn, Nat.sub_self, List.replicate_zero, List.append_nil] at hO
    have hcnt : ∀ x : Nat, (List.replicate lb.length (-1 : Int)).count (x : Int) = if x < 0 ∧ longB la cost x = true then 1 else 0 := fun x => by
      rw [List.count_replicate, if_neg (by simp), if_neg (by omega)]
    have hK0 : KPre (fitsR la lb cost) la.length (List.replicate lb.length (-1)) := fun k hk => .inl (by simp)
    refine ws_exit ?_
    refine nx_then_exit ?_
    refine nx_then_exit ?_
    refine nx_block_exit ?_
    refine nx_then ?_
    refine ws_seq ?_
    refine ws_seq ?_
    refine ws_region ?_
    refine wl_x (ox_assign rfl rfl) rfl rfl rfl ?_
    refine wl_nil ?_
    refine nx_then ?_
    refine ws_block ?_
    refine ws_loop (fun q s h' ms' => ∃ (i : Nat) (m : Hp) (part : List Int), q = la.length - i ∧ s = [(0, va), (1, vb), (2, .int .i64 cost), (7, .slice (some ⟨g12, 0, none⟩) lb.length lb.length), (9, .int .i64 i)] ∧ h = h' ∧ ms' = [m] ∧ i ≤ la.length ∧ part.length = lb.length ∧ OwnL cI 1 3 m (.slice (some ⟨g12, 0, none⟩) lb.length lb.length) part ∧ KPre (fitsR la lb cost) la.length part ∧ ∀ x : Nat, part.count (x : Int) = if x < i ∧ longB la cost x = true then 1 else 0)
      (la.length - 0) _ ⟨0, m, _, rfl, rfl, rfl, rfl, by omega, by simp, hO, hK0, hcnt⟩ (by repeat (first | exact trivial | refine ⟨rfl, ?_⟩)) ?_
    clear hK0 hcnt hO hkn
    rintro q s h' ms' ⟨i, m, part, rfl, rfl, rfl, rfl, hi, hpl, hP, hK, hcnt⟩
    refine ws_seq ?_
    refine ws_seq ?_
    refine ws_region ?_
    refine wl_x (ox_move rfl rfl) rfl rfl rfl ?_
    refine wl_x (ox_move rfl rfl) rfl rfl rfl ?_
    first | refine wl_x (ox_len (ty := 25) rfl Try.underlying25 rfl) rfl rfl rfl ?_ | refine wl_x (ox_lenR hRa.rd.any rfl Try.underlying25 rfl) rfl rfl rfl ?_ | refine wl_x (ox_lenR hRb.rd.any rfl Try.underlying25 rfl) rfl rfl rfl ?_
    refine wl_x (ox_lss rfl rfl rfl) rfl rfl rfl ?_
    refine wl_nil ?_
    refine nx_then ?_
    refine ws_if rfl (fun hltp => ?_) (fun hltp => ?_)
    · skip
      have hia : i < la.length := by omega
      have hbi := hA _ (List.getElem_mem hia)
      obtain ⟨b1, b2, b3, b4⟩ := hbi
      refine ws_skip ?_
      refine nx_then ?_
      refine ws_seq ?_
      refine ws_block ?_
      refine ws_seq ?_
      refine ws_draw 22 fol (by kernel_rfl) rfl ?_
      simp only [List.take_succ_cons, List.take_zero, List.drop_succ_cons, List.drop_zero, List.take_nil, List.drop_nil]
      refine wr_x (ox_move rfl rfl) rfl rfl ?_
      refine wr_x (ox_move rfl rfl) rfl rfl ?_
      first | refine wr_x (ox_index _ rfl Try.underlying25 el40 rfl rfl rfl (by omega)) rfl rfl ?_ | refine wr_x (ox_indexR _ hRa.rd.any rfl Try.underlying25 el40 rfl rfl rfl (by omega)) rfl rfl ?_ | refine wr_x (ox_indexR _ hRb.rd.any rfl Try.underlying25 el40 rfl rfl rfl (by omega)) rfl rfl ?_
      refine wr_x (ox_fieldF fd40_2 rfl rfl) rfl rfl ?_
      refine wr_x (ox_load rfl Try.underlying3 rfl rfl (by first | exact hRa.any.cell hia rfl)) rfl rfl ?_
      refine wr_x (ox_move rfl rfl) rfl rfl ?_
      refine wr_x (ox_move rfl rfl) rfl rfl ?_
      first | refine wr_x (ox_index _ rfl Try.underlying25 el40 rfl rfl rfl (by omega)) rfl rfl ?_ | refine wr_x (ox_indexR _ hRa.rd.any rfl Try.underlying25 el40 rfl rfl rfl (by omega)) rfl rfl ?_ | refine wr_x (ox_indexR _ hRb.rd.any rfl Try.underlying25 el40 rfl rfl rfl (by omega)) rfl rfl ?_
      refine wr_x (ox_fieldF fd40_1 rfl rfl) rfl rfl ?_
      refine wr_x (ox_load rfl Try.underlying3 rfl rfl (by first | exact hRa.any.cell hia rfl)) rfl rfl ?_
      refine wr_x (ox_sub rfl rfl rfl (by omega)) rfl rfl ?_
      refine wr_x (ox_move rfl rfl) rfl rfl ?_
      refine wr_x (ox_gtr rfl rfl rfl) rfl rfl ?_
      refine wr_x (ox_move rfl rfl) rfl rfl ?_
      refine wr_split (t := 41) rfl (fun hlong => ?_) (fun hlong => ?_)
      · skip
        have hl' : longB la cost i = true := by unfold longB; rw [dif_pos hia]; exact decide_eq_true hlong
        refine wr_gx (ox_move rfl rfl) rfl rfl rfl rfl ?_
        refine wr_gx (ox_move rfl rfl) rfl rfl rfl rfl ?_
        refine wr_gx (ox_move rfl rfl) rfl rfl rfl rfl ?_
        refine wr_gx (ox_move rfl rfl) rfl rfl rfl rfl ?_
        refine wr_gx (ox_move rfl rfl) rfl rfl rfl rfl ?_
        first | refine wr_gx (ox_len (ty := 25) rfl Try.underlying25 rfl) rfl rfl rfl rfl ?_ | refine wr_gx (ox_lenR hRa.rd.any rfl Try.underlying25 rfl) rfl rfl rfl rfl ?_ | refine wr_gx (ox_lenR hRb.rd.any rfl Try.underlying25 rfl) rfl rfl rfl rfl ?_
        refine wr_gb (onb_make (n := lb.length) rfl Try.underlying72 el4 rfl rfl rfl (by first | rfl | omega) (by first | rfl | omega) (by omega) (by omega)) rfl rfl rfl rfl ?_
        refine wr_gx (ox_move rfl rfl) rfl rfl rfl rfl ?_
        refine wr_nil1 (fun g48 => ?_)
        refine wl_gcall_ (pre := [Blk g48 4 (List.replicate lb.length (Value.bool false)), m]) rfl Try.call51 rfl (search_ok la lb va vb cost h hRa hRb hla hlb hA hB _ _ _ i (List.replicate lb.length false) part _ m (Nat.le_refl _) hia (by simp) hpl hK (own_rep g48 lb.length (by omega)) hP rfl) rfl rfl rfl rfl rfl rfl rfl (fun _ _ _ _ hF => ?_)
        obtain ⟨b, m1, m2, seen', part', rfl, rfl, rfl, hS1, hP1, hK1, hpl1, hsl1, hT, hFa⟩ := hF
        simp only [List.cons_append, List.nil_append, List.append_nil]
        refine wl_gx (ox_not rfl rfl) rfl rfl rfl rfl rfl rfl ?_
        refine wl_x (ox_pick_t rfl rfl rfl) rfl rfl rfl ?_
        refine wl_nil ?_
        refine nx_then ?_
        refine ws_cond rfl (fun hb => ?_) (fun hb => ?_)
        · skip
          obtain ⟨rfl, hL⟩ := hFa (by simpa using hb)
          refine ws_seq ?_
          refine ws_region ?_
          refine wl_x (ox_assign rfl rfl) rfl rfl rfl ?_
          refine wl_nil ?_
          refine nx_then ?_
          refine ws_ret ?_
          refine nx_block_ret ?_
          refine nx_then_ret ?_
          refine nx_then_ret ?_
          refine nx_block_ret ?_
          refine nx_then_ret ?_
          exact nx_ret1 rfl rfl (⟨false, rfl, fun h => (by cases h), fun _ => ⟨i, part', seen', hia, hl', hpl, hK, hcnt, hL⟩⟩)
        · skip
          have hT := hT (by simpa using hb)
          refine ws_skip ?_
          refine nx_block ?_
          refine nx_then ?_
          refine ws_region ?_
          refine wl_x (ox_move rfl rfl) rfl rfl rfl ?_
          refine wl_x (ox_add rfl rfl rfl (by omega)) rfl rfl rfl ?_
          refine wl_x (ox_assign rfl rfl) rfl rfl rfl ?_
          refine wl_nil ?_
          refine nx_drop ?_
          refine nx_round (la.length - (i + 1)) _ (by omega) ⟨i + 1, m2, part', rfl, rfl, rfl, rfl, by omega, by omega, hP1, hK1, fun x => ?_⟩ (by repeat (first | exact trivial | refine ⟨rfl, ?_⟩))
          rw [hT.cnt x, hcnt x]
          by_cases h2 : x = i
          · subst h2; simp [hl']
          · by_cases h1 : x < i
            · simp [h1, h2, show x < i + 1 by omega]
            · simp [h1, h2, show ¬ x < i + 1 by omega]
      · skip
        have hl' : longB la cost i = false := by unfold longB; rw [dif_pos hia]; exact decide_eq_false hlong
        refine wr_skip rfl rfl rfl rfl rfl ?_
        refine wr_skip rfl rfl rfl rfl rfl ?_
        refine wr_skip rfl rfl rfl rfl rfl ?_
        refine wr_skip rfl rfl rfl rfl rfl ?_
        refine wr_skip rfl rfl rfl rfl rfl ?_
        refine wr_skip rfl rfl rfl rfl rfl ?_
        refine wr_skip rfl rfl rfl rfl rfl ?_
        refine wr_skip rfl rfl rfl rfl rfl ?_
        refine wr_nil ?_
        refine wl_skip rfl rfl rfl rfl rfl rfl rfl ?_
        refine wl_skip rfl rfl rfl rfl rfl rfl rfl ?_
        refine wl_x (ox_pick_f rfl rfl rfl) rfl rfl rfl ?_
        refine wl_nil ?_
        refine nx_then ?_
        refine ws_cond_f rfl ?_
        refine ws_skip ?_
        refine nx_block ?_
        refine nx_then ?_
        refine ws_region ?_
        refine wl_x (ox_move rfl rfl) rfl rfl rfl ?_
        refine wl_x (ox_add rfl rfl rfl (by omega)) rfl rfl rfl ?_
        refine wl_x (ox_assign rfl rfl) rfl rfl rfl ?_
        refine wl_nil ?_
        refine nx_round (la.length - (i + 1)) _ (by omega) ⟨i + 1, m, part, rfl, rfl, rfl, rfl, by omega, hpl, hP, hK, fun x => ?_⟩ (by repeat (first | exact trivial | refine ⟨rfl, ?_⟩))
        rw [hcnt x]
        by_cases h2 : x = i
        · subst h2; simp [hl']
        · by_cases h1 : x < i
          · simp [h1, show x < i + 1 by omega]
          · simp [h1, show ¬ x < i + 1 by omega]
    · skip
      have hiA : i = la.length := by omega
      rw [hiA] at hcnt
      refine ws_exit ?_
      refine nx_then_exit ?_
      refine nx_then_exit ?_
      refine nx_block_exit ?_
      refine nx_then ?_
      refine ws_seq ?_
      refine ws_region ?_
      refine wl_x (ox_assign rfl rfl) rfl rfl rfl ?_
      refine wl_nil ?_
      refine nx_then ?_
      refine ws_ret ?_
      exact nx_ret1 rfl rfl (⟨true, rfl, fun _ => ⟨part, hpl, hK, hcnt⟩, fun h => (by cases h)⟩)
end Go.Proofs.Ythdkhnjnhhofgaa
