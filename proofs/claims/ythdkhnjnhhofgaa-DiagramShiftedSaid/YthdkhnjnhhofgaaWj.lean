/- Walks: the reference's search for a partner. -/
import Derived.Test.YthdkhnjnhhofgaaWi
set_option linter.unusedSimpArgs false
set_option linter.unusedVariables false
set_option maxRecDepth 100000
namespace Go.Proofs.Ythdkhnjnhhofgaa
open Go.Eng Go.RowKit Go.Kuhn

def fitsR (la lb : List Br) (cost : Int) (i k : Nat) : Bool := if h : i < la.length ∧ k < lb.length then decide ((la[i]'h.1).apart (lb[k]'h.2) ≤ cost) else false

theorem search_ok (la lb : List Br) (va vb : Value) (cost : Int) (h : Hp) (hRa : RdL cBr 6 h [] va la) (hRb : RdL cBr 6 h [] vb lb) (hla : la.length ≤ 1000000) (hlb : lb.length ≤ 1000000) (hA : ∀ b ∈ la, BOk b) (hB : ∀ b ∈ lb, BOk b) (vs vp : Value) (N : Nat) :
    ∀ (i : Nat) (seen : List Bool) (part : List Int) (ms mp : Hp), unseen seen ≤ N → i < la.length → seen.length = lb.length → part.length = lb.length → KPre (fitsR la lb cost) la.length part → OwnL cB 1 4 ms vs seen → OwnL cI 1 3 mp vp part → ∀ {i' : Int}, i' = i →
    FnT Try.prog 51 #[va, vb, .int .i64 cost, .int .i64 i', vs, vp] h [ms, mp] (Found (fitsR la lb cost) la.length lb.length i seen part h [] vs vp) := by
  induction N using Nat.strongRecOn with
  | _ N ih =>
  intro i seen part ms mp hN hi hsl hpl hK hS hP i' ei
  subst ei
  refine fn_enter Try.func51 Try.ntmps51 rfl rfl (fun w0 hw0 => ?_)
  simp only [argS]
  refine ws_seq ?_
  refine ws_region ?_
  refine wl_x (ox_assign rfl rfl) rfl rfl rfl ?_
  refine wl_nil ?_
  refine nx_then ?_
  refine ws_seq ?_
  refine ws_seq ?_
  refine ws_region ?_
  refine wl_x (ox_assign rfl rfl) rfl rfl rfl ?_
  refine wl_nil ?_
  refine nx_then ?_
  refine ws_block ?_
  refine ws_loop (fun q s h' ms' => ∃ (k : Nat) (seen1 : List Bool) (m1 mp1 : Hp), q = lb.length - k ∧ s = [(0, va), (1, vb), (2, .int .i64 cost), (3, .int .i64 i), (4, vs), (5, vp), (13, .int .i64 k)] ∧ h = h' ∧ ms' = [m1, mp1] ∧ k ≤ lb.length ∧ OwnL cB 1 4 m1 vs seen1 ∧ OwnL cI 1 3 mp1 vp part ∧ LI (fitsR la lb cost) i lb.length k seen part seen1)
    (lb.length - 0) _ ⟨0, seen, ms, mp, rfl, rfl, rfl, rfl, by omega, hS, hP, LI.start⟩ (by repeat (first | exact trivial | refine ⟨rfl, ?_⟩)) ?_
  rintro q s h' ms' ⟨k, seen1, m1, mp1, rfl, rfl, rfl, rfl, hk, hS1, hP1, hL⟩
  refine ws_seq ?_
  refine ws_seq ?_
  refine ws_region ?_
  refine wl_x (ox_move rfl rfl) rfl rfl rfl ?_
  refine wl_x (ox_move rfl rfl) rfl rfl rfl ?_
  first | refine wl_x (ox_len (ty := 25) rfl Try.underlying25 rfl) rfl rfl rfl ?_ | refine wl_x (ox_lenR hRa.rd.any rfl Try.underlying25 rfl) rfl rfl rfl ?_ | refine wl_x (ox_lenR hRb.rd.any rfl Try.underlying25 rfl) rfl rfl rfl ?_
  refine wl_x (ox_lss rfl rfl rfl) rfl rfl rfl ?_
  refine wl_nil ?_
  refine nx_then ?_
  refine ws_if rfl (fun hlt => ?_) (fun hlt => ?_)
  · skip
    have hkn : k < lb.length := by omega
    have hks : k < seen1.length := by rw [hL.slen]; omega
    have hkp : k < part.length := by omega
    have hRs := OwnL.rd hS1 (h := h) (ms := [m1, mp1]) (.head _)
    refine ws_skip ?_
    refine nx_then ?_
    refine ws_seq ?_
    refine ws_block ?_
    refine ws_seq ?_
    refine ws_seq ?_
    refine ws_draw 15 fol (by kernel_rfl) rfl ?_
    simp only [List.take_succ_cons, List.take_zero, List.drop_succ_cons, List.drop_zero, List.take_nil, List.drop_nil]
    refine wr_x (ox_move rfl rfl) rfl rfl ?_
    refine wr_x (ox_move rfl rfl) rfl rfl ?_
    first | refine wr_x (ox_index k rfl Try.underlying72 el4 rfl rfl (by omega) (by omega)) rfl rfl ?_ | refine wr_x (ox_indexR k hRs.rd rfl Try.underlying72 el4 rfl rfl (by omega) (by omega)) rfl rfl ?_ | refine wr_x (ox_indexR k hRa.rd.any rfl Try.underlying72 el4 rfl rfl (by omega) (by omega)) rfl rfl ?_ | refine wr_x (ox_indexR k hRb.rd.any rfl Try.underlying72 el4 rfl rfl (by omega) (by omega)) rfl rfl ?_
    refine wr_x (ox_load rfl Try.underlying4 rfl rfl (by first | exact hRs.cell0 hks rfl)) rfl rfl ?_
    refine wr_x (ox_move rfl rfl) rfl rfl ?_
    refine wr_splitb (t := 24) rfl (fun hsk => ?_) (fun hsk => ?_)
    · skip
      refine wr_skip rfl rfl rfl rfl rfl ?_
      refine wr_skip rfl rfl rfl rfl rfl ?_
      refine wr_skip rfl rfl rfl rfl rfl ?_
      refine wr_skip rfl rfl rfl rfl rfl ?_
      refine wr_skip rfl rfl rfl rfl rfl ?_
      refine wr_skip rfl rfl rfl rfl rfl ?_
      refine wr_skip rfl rfl rfl rfl rfl ?_
      refine wr_skip rfl rfl rfl rfl rfl ?_
      refine wr_skip rfl rfl rfl rfl rfl ?_
      refine wr_skip rfl rfl rfl rfl rfl ?_
      refine wr_nil ?_
      refine wl_skip rfl rfl rfl rfl rfl rfl rfl ?_
      refine wl_x (ox_pick_t rfl rfl rfl) rfl rfl rfl ?_
      refine wl_nil ?_
      refine nx_then ?_
      refine ws_cond_t rfl ?_
      refine ws_exit ?_
      refine nx_then_exit ?_
      refine nx_block_exit ?_
      refine nx_then ?_
      refine ws_region ?_
      refine wl_x (ox_move rfl rfl) rfl rfl rfl ?_
      refine wl_x (ox_add rfl rfl rfl (by omega)) rfl rfl rfl ?_
      refine wl_x (ox_assign rfl rfl) rfl rfl rfl ?_
      refine wl_nil ?_
      refine nx_round (lb.length - (k + 1)) _ (by omega) ⟨k + 1, seen1, m1, mp1, rfl, rfl, rfl, rfl, by omega, hS1, hP1, hL.skip (.inl (by rw [List.getElem?_eq_getElem hks, hsk]))⟩ (by repeat (first | exact trivial | refine ⟨rfl, ?_⟩))
    · skip
      refine wr_gx (ox_move rfl rfl) rfl rfl rfl rfl ?_
      refine wr_gx (ox_move rfl rfl) rfl rfl rfl rfl ?_
      first | refine wr_gx (ox_index i rfl Try.underlying25 el40 rfl rfl (by omega) (by omega)) rfl rfl rfl rfl ?_ | refine wr_gx (ox_indexR i hRs.rd rfl Try.underlying25 el40 rfl rfl (by omega) (by omega)) rfl rfl rfl rfl ?_ | refine wr_gx (ox_indexR i hRa.rd.any rfl Try.underlying25 el40 rfl rfl (by omega) (by omega)) rfl rfl rfl rfl ?_ | refine wr_gx (ox_indexR i hRb.rd.any rfl Try.underlying25 el40 rfl rfl (by omega) (by omega)) rfl rfl rfl rfl ?_
      refine wr_gx (ox_loadG rfl Try.underlying40 rfl el40 rfl rfl (by first | exact hRa.any.seg hi | exact hRb.any.seg hkn)) rfl rfl rfl rfl ?_
      refine wr_gx (ox_move rfl rfl) rfl rfl rfl rfl ?_
      refine wr_gx (ox_move rfl rfl) rfl rfl rfl rfl ?_
      first | refine wr_gx (ox_index k rfl Try.underlying25 el40 rfl rfl (by omega) (by omega)) rfl rfl rfl rfl ?_ | refine wr_gx (ox_indexR k hRs.rd rfl Try.underlying25 el40 rfl rfl (by omega) (by omega)) rfl rfl rfl rfl ?_ | refine wr_gx (ox_indexR k hRa.rd.any rfl Try.underlying25 el40 rfl rfl (by omega) (by omega)) rfl rfl rfl rfl ?_ | refine wr_gx (ox_indexR k hRb.rd.any rfl Try.underlying25 el40 rfl rfl (by omega) (by omega)) rfl rfl rfl rfl ?_
      refine wr_gx (ox_loadG rfl Try.underlying40 rfl el40 rfl rfl (by first | exact hRa.any.seg hi | exact hRb.any.seg hkn)) rfl rfl rfl rfl ?_
      refine wr_gx (ox_call rfl Try.call41 rfl (rapart_ok _ _ (hA _ (List.getElem_mem hi)) (hB _ (List.getElem_mem hkn)) _ _)) rfl rfl rfl rfl ?_
      refine wr_gx (ox_move rfl rfl) rfl rfl rfl rfl ?_
      refine wr_nil ?_
      refine wl_gx (ox_gtr rfl rfl rfl) rfl rfl rfl rfl rfl rfl ?_
      refine wl_x (ox_pick_f rfl rfl rfl) rfl rfl rfl ?_
      refine wl_nil ?_
      refine nx_then ?_
      refine ws_if rfl (fun hft => ?_) (fun hft => ?_)
      · skip
        refine ws_exit ?_
        refine nx_then_exit ?_
        refine nx_block_exit ?_
        refine nx_then ?_
        refine ws_region ?_
        refine wl_x (ox_move rfl rfl) rfl rfl rfl ?_
        refine wl_x (ox_add rfl rfl rfl (by omega)) rfl rfl rfl ?_
        refine wl_x (ox_assign rfl rfl) rfl rfl rfl ?_
        refine wl_nil ?_
        refine nx_round (lb.length - (k + 1)) _ (by omega) ⟨k + 1, seen1, m1, mp1, rfl, rfl, rfl, rfl, by omega, hS1, hP1, hL.skip (.inr (by unfold fitsR; rw [dif_pos ⟨hi, hkn⟩]; exact decide_eq_false (by omega)))⟩ (by repeat (first | exact trivial | refine ⟨rfl, ?_⟩))
      · skip
        have hft' : fitsR la lb cost i k = true := by unfold fitsR; rw [dif_pos ⟨hi, hkn⟩]; exact decide_eq_true (by omega)
        have h0 : seen1[k]? ≠ some true := by rw [List.getElem?_eq_getElem hks, hsk]; simp
        refine ws_skip ?_
        refine nx_then ?_
        refine ws_seq ?_
        refine ws_region ?_
        refine wl_x (ox_move rfl rfl) rfl rfl rfl ?_
        refine wl_x (ox_move rfl rfl) rfl rfl rfl ?_
        first | refine wl_x (ox_index k rfl Try.underlying72 el4 rfl rfl (by omega) (by omega)) rfl rfl rfl ?_ | refine wl_x (ox_indexR k hRs.rd rfl Try.underlying72 el4 rfl rfl (by omega) (by omega)) rfl rfl rfl ?_ | refine wl_x (ox_indexR k hRa.rd.any rfl Try.underlying72 el4 rfl rfl (by omega) (by omega)) rfl rfl rfl ?_ | refine wl_x (ox_indexR k hRb.rd.any rfl Try.underlying72 el4 rfl rfl (by omega) (by omega)) rfl rfl rfl ?_
        refine wl_storeL1 (F := cB) (f := fun x => .bool x) (a := true) 0 k (fun _ => rfl) hS1 rfl el4 rfl rfl rfl rfl hks rfl rfl (fun m2 hS2 => ?_)
        have hRp := OwnL.rd hP1 (h := h) (ms := [m2, mp1]) (.tail _ (.head _))
        refine wl_nil ?_
        refine nx_then ?_
        refine ws_seq ?_
        refine ws_region ?_
        refine wl_x (ox_move rfl rfl) rfl rfl rfl ?_
        refine wl_x (ox_move rfl rfl) rfl rfl rfl ?_
        first | refine wl_x (ox_index k rfl Try.underlying23 el3 rfl rfl (by omega) (by omega)) rfl rfl rfl ?_ | refine wl_x (ox_indexR k hRp.rd rfl Try.underlying23 el3 rfl rfl (by omega) (by omega)) rfl rfl rfl ?_
        refine wl_x (ox_load rfl Try.underlying3 rfl rfl (by first | exact hRp.cell0 hkp rfl)) rfl rfl rfl ?_
        refine wl_x (ox_lss rfl rfl rfl) rfl rfl rfl ?_
        refine wl_x (ox_move rfl rfl) rfl rfl rfl ?_
        refine wl_split (t := 45) rfl (fun hneg => ?_) (fun hneg => ?_)
        · skip
          refine wl_skip rfl rfl rfl rfl rfl rfl rfl ?_
          refine wl_skip rfl rfl rfl rfl rfl rfl rfl ?_
          refine wl_skip rfl rfl rfl rfl rfl rfl rfl ?_
          refine wl_skip rfl rfl rfl rfl rfl rfl rfl ?_
          refine wl_skip rfl rfl rfl rfl rfl rfl rfl ?_
          refine wl_skip rfl rfl rfl rfl rfl rfl rfl ?_
          refine wl_skip rfl rfl rfl rfl rfl rfl rfl ?_
          refine wl_skip rfl rfl rfl rfl rfl rfl rfl ?_
          refine wl_skip rfl rfl rfl rfl rfl rfl rfl ?_
          refine wl_skip rfl rfl rfl rfl rfl rfl rfl ?_
          refine wl_x (ox_pick_t rfl rfl rfl) rfl rfl rfl ?_
          refine wl_nil ?_
          refine nx_then ?_
          refine ws_cond_t rfl ?_
          refine ws_seq ?_
          refine ws_region ?_
          refine wl_x (ox_move rfl rfl) rfl rfl rfl ?_
          refine wl_x (ox_move rfl rfl) rfl rfl rfl ?_
          refine wl_x (ox_move rfl rfl) rfl rfl rfl ?_
          first | refine wl_x (ox_index k rfl Try.underlying23 el3 rfl rfl (by omega) (by omega)) rfl rfl rfl ?_ | refine wl_x (ox_indexR k hRp.rd rfl Try.underlying23 el3 rfl rfl (by omega) (by omega)) rfl rfl rfl ?_
          refine wl_storeL1 (F := cI) (f := fun x => .int .i64 x) (a := (i : Int)) 1 k (fun _ => rfl) hP1 rfl el3 rfl rfl rfl rfl hkp rfl rfl (fun m3 hP3 => ?_)
          refine wl_nil ?_
          refine nx_then ?_
          refine ws_seq ?_
          refine ws_region ?_
          refine wl_x (ox_assign rfl rfl) rfl rfl rfl ?_
          refine wl_nil ?_
          refine nx_then ?_
          refine ws_ret ?_
          refine nx_block_ret ?_
          refine nx_then_ret ?_
          refine nx_then_ret ?_
          refine nx_block_ret ?_
          refine nx_then_ret ?_
          have hT := hL.free hK hi hkp hks h0 hft' hneg
          exact nx_ret1 rfl rfl (⟨true, m2, m3, _, _, rfl, rfl, rfl, hS2, hP3, hT.pre, hT.plen, hT.slen, fun _ => hT, fun h => (by cases h)⟩)
        · skip
          obtain ⟨p, hp, hpn, hpf⟩ : ∃ p : Nat, part[k] = (p : Int) ∧ p < la.length ∧ fitsR la lb cost p k = true := by
            rcases hK k hkp with h1 | h1
            · omega
            · exact h1
          have hp' : part[k]? = some (p : Int) := by rw [List.getElem?_eq_getElem hkp, hp]
          have hu : unseen (seen1.set k true) < N := by
            have u1 := unseen_set seen1 k hks hsk
            have u2 := unseen_mono seen seen1 hL.slen hL.mono
            omega
          refine wl_gx (ox_move rfl rfl) rfl rfl rfl rfl rfl rfl ?_
          refine wl_gx (ox_move rfl rfl) rfl rfl rfl rfl rfl rfl ?_
          refine wl_gx (ox_move rfl rfl) rfl rfl rfl rfl rfl rfl ?_
          refine wl_gx (ox_move rfl rfl) rfl rfl rfl rfl rfl rfl ?_
          refine wl_gx (ox_move rfl rfl) rfl rfl rfl rfl rfl rfl ?_
          first | refine wl_gx (ox_index k rfl Try.underlying23 el3 rfl rfl (by omega) (by omega)) rfl rfl rfl rfl rfl rfl ?_ | refine wl_gx (ox_indexR k hRp.rd rfl Try.underlying23 el3 rfl rfl (by omega) (by omega)) rfl rfl rfl rfl rfl rfl ?_
          refine wl_gx (ox_load rfl Try.underlying3 rfl rfl (by first | exact hRp.cell0 hkp rfl)) rfl rfl rfl rfl rfl rfl ?_
          refine wl_gx (ox_move rfl rfl) rfl rfl rfl rfl rfl rfl ?_
          refine wl_gx (ox_move rfl rfl) rfl rfl rfl rfl rfl rfl ?_
          refine wl_gcall_ (pre := [m2, mp1]) rfl Try.call51 rfl (ih _ hu p (seen1.set k true) part m2 mp1 (Nat.le_refl _) hpn (by rw [List.length_set, hL.slen]; exact hsl) hpl hK hS2 hP1 hp) rfl rfl rfl rfl rfl rfl rfl (fun _ _ _ _ hF => ?_)
          obtain ⟨b, m3, mp3, seen3, part3, rfl, rfl, rfl, hS3, hP3, hK3, hpl3, hsl3, hT, hFa⟩ := hF
          simp only [List.cons_append, List.nil_append, List.append_nil]
          refine wl_x (ox_pick_f rfl rfl rfl) rfl rfl rfl ?_
          refine wl_nil ?_
          refine nx_then ?_
          refine ws_cond rfl (fun hb => ?_) (fun hb => ?_)
          · skip
            have hT := hL.moved hi hkp hks h0 hft' hp' (hT hb)
            have hRp := OwnL.rd hP3 (h := h) (ms := [m3, mp3]) (.tail _ (.head _))
            have hkp3 : k < part3.length := by omega
            refine ws_seq ?_
            refine ws_region ?_
            refine wl_x (ox_move rfl rfl) rfl rfl rfl ?_
            refine wl_x (ox_move rfl rfl) rfl rfl rfl ?_
            refine wl_x (ox_move rfl rfl) rfl rfl rfl ?_
            first | refine wl_x (ox_index k rfl Try.underlying23 el3 rfl rfl (by omega) (by omega)) rfl rfl rfl ?_ | refine wl_x (ox_indexR k hRp.rd rfl Try.underlying23 el3 rfl rfl (by omega) (by omega)) rfl rfl rfl ?_
            refine wl_storeL1 (F := cI) (f := fun x => .int .i64 x) (a := (i : Int)) 1 k (fun _ => rfl) hP3 rfl el3 rfl rfl rfl rfl (by rw [hpl3]; exact hkp) rfl rfl (fun m4 hP4 => ?_)
            refine wl_nil ?_
            refine nx_then ?_
            refine ws_seq ?_
            refine ws_region ?_
            refine wl_x (ox_assign rfl rfl) rfl rfl rfl ?_
            refine wl_nil ?_
            refine nx_then ?_
            refine ws_ret ?_
            refine nx_block_ret ?_
            refine nx_then_ret ?_
            refine nx_then_ret ?_
            refine nx_block_ret ?_
            refine nx_then_ret ?_
            exact nx_ret1 rfl rfl (⟨true, m3, m4, _, _, rfl, rfl, rfl, hS3, hP4, hT.pre, hT.plen, hT.slen, fun _ => hT, fun h => (by cases h)⟩)
          · skip
            obtain ⟨rfl, hLF⟩ := hFa hb
            refine ws_skip ?_
            refine nx_block ?_
            refine nx_then ?_
            refine ws_region ?_
            refine wl_x (ox_move rfl rfl) rfl rfl rfl ?_
            refine wl_x (ox_add rfl rfl rfl (by omega)) rfl rfl rfl ?_
            refine wl_x (ox_assign rfl rfl) rfl rfl rfl ?_
            refine wl_nil ?_
            refine nx_round (lb.length - (k + 1)) _ (by omega) ⟨k + 1, seen3, m3, mp3, rfl, rfl, rfl, rfl, by omega, hS3, hP3, hL.fail hks hp' hLF⟩ (by repeat (first | exact trivial | refine ⟨rfl, ?_⟩))
  · skip
    have hkn : k = lb.length := by omega
    rw [hkn] at hL
    refine ws_exit ?_
    refine nx_then_exit ?_
    refine nx_then_exit ?_
    refine nx_block_exit ?_
    refine nx_then ?_
    refine ws_seq ?_
    refine ws_region ?_
    refine wl_x (ox_assign rfl rfl) rfl rfl rfl ?_
    refine wl_nil ?_
    refine nx_then ?_
    refine ws_ret ?_
    exact nx_ret1 rfl rfl (⟨false, m1, mp1, seen1, part, rfl, rfl, rfl, hS1, hP1, hK, rfl, hL.slen, fun h => (by cases h), fun _ => ⟨rfl, hL⟩⟩)
end Go.Proofs.Ythdkhnjnhhofgaa
