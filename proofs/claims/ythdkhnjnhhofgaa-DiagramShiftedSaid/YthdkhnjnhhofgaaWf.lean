/- Walks: the search for a partner. -/
import Derived.Test.YthdkhnjnhhofgaaWe
set_option linter.unusedSimpArgs false
set_option linter.unusedVariables false
set_option maxRecDepth 100000
namespace Go.Proofs.Ythdkhnjnhhofgaa
open Go.Eng Go.RowKit Go.Kuhn

/-- What a search leaves. -/
def Found (fits : Nat → Nat → Bool) (nl n i : Nat) (seen : List Bool) (part : List Int) (h : Hp) (rest : List Hp) (vs vp : Value) : Value → Hp → List Hp → Prop := fun r h' ms' =>
  ∃ (b : Bool) (m1 m2 : Hp) (seen' : List Bool) (part' : List Int), r = .bool b ∧ h = h' ∧ ms' = rest ++ [m1, m2] ∧ OwnL cB 1 4 m1 vs seen' ∧ OwnL cI 1 3 m2 vp part' ∧ KPre fits nl part' ∧ part'.length = part.length ∧ seen'.length = seen.length ∧
    (b = true → KT fits nl i seen part seen' part') ∧ (b = false → part' = part ∧ LI fits i n n seen part seen')

abbrev pA (g : Nat) : Value := .pointer (some ⟨g, 0, none⟩)
abbrev fitsV (ga gb gc : Nat) : Value := .func (.func 48) ([] : List Value).toArray [pA ga, pA gb, pA gc].toArray
abbrev findV (g1 g2 g3 g4 g5 : Nat) : Value := .func (.func 50) ([] : List Value).toArray [pA g1, pA g2, pA g3, pA g4, pA g5].toArray

theorem find_ok (la lb : List Br) (va vb : Value) (ga gb gc g1 g2 g3 g4 g5 : Nat) (cost : Int) (h : Hp) (hRa : RdL cBr 6 h [] va la) (hRb : RdL cBr 6 h [] vb lb) (hla : la.length ≤ 1000000) (hlb : lb.length ≤ 1000000) (hA : ∀ b ∈ la, BOk b) (hB : ∀ b ∈ lb, BOk b)
    (ca : Cell h [] ⟨ga, 0, none⟩ va) (cb : Cell h [] ⟨gb, 0, none⟩ vb) (cc : Cell h [] ⟨gc, 0, none⟩ (.int .i64 cost)) (n : Nat) (hn : n = la.length + lb.length) (vs vp : Value)
    (c1 : Cell h [] ⟨g1, 0, none⟩ (.int .i64 n)) (c3 : Cell h [] ⟨g3, 0, none⟩ (fitsV ga gb gc)) (c4 : Cell h [] ⟨g4, 0, none⟩ vp) (c5 : Cell h [] ⟨g5, 0, none⟩ (findV g1 g2 g3 g4 g5)) (N : Nat) :
    ∀ (i : Nat) (seen : List Bool) (part : List Int) (ms mp : Hp), unseen seen ≤ N → i < n → seen.length = n → part.length = n → KPre (fitsD la lb cost) n part → OwnL cB 1 4 ms vs seen → OwnL cI 1 3 mp vp part → ∀ {i' : Int}, i' = i →
    FnT Try.prog 50 ([] ++ [Value.int .i64 i'] ++ [pA g1, pA g2, pA g3, pA g4, pA g5]).toArray h [Blk g2 72 [vs], ms, mp] (Found (fitsD la lb cost) n n i seen part h [Blk g2 72 [vs]] vs vp) := by
  induction N using Nat.strongRecOn with
  | _ N ih =>
  intro i seen part ms mp hN hi hsl hpl hK hS hP i' ei
  subst ei
  show FnT _ _ #[.int .i64 (i : Int), pA g1, pA g2, pA g3, pA g4, pA g5] _ _ _
  refine fn_enter Try.func50 Try.ntmps50 rfl rfl (fun w0 hw0 => ?_)
  simp only [argS]
  refine ws_seq ?_
  refine ws_region ?_
  refine wl_x (ox_assign rfl rfl) rfl rfl rfl ?_
  refine wl_nil ?_
  refine nx_then ?_
  refine ws_seq ?_
  refine ws_seq ?_
  refine ws_region ?_
  refine wl_x (ox_load rfl Try.underlying3 rfl rfl (by first | exact c1.any)) rfl rfl rfl ?_
  refine wl_x (ox_move rfl rfl) rfl rfl rfl ?_
  refine wl_nil ?_
  refine nx_then ?_
  refine ws_block ?_
  refine ws_loop (fun q s h' ms' => ∃ (k : Nat) (seen1 : List Bool) (m1 mp1 : Hp), q = n - k ∧ s = [(0, .int .i64 i), (1, pA g1), (2, pA g2), (3, pA g3), (4, pA g4), (5, pA g5), (9, .int .i64 n), (10, .int .i64 k)] ∧ h = h' ∧ ms' = [Blk g2 72 [vs], m1, mp1] ∧ k ≤ n ∧ OwnL cB 1 4 m1 vs seen1 ∧ OwnL cI 1 3 mp1 vp part ∧ LI (fitsD la lb cost) i n k seen part seen1)
    (n - 0) _ ⟨0, seen, ms, mp, rfl, rfl, rfl, rfl, by omega, hS, hP, LI.start⟩ (by repeat (first | exact trivial | refine ⟨rfl, ?_⟩)) ?_
  rintro q s h' ms' ⟨k, seen1, m1, mp1, rfl, rfl, rfl, rfl, hk, hS1, hP1, hL⟩
  refine ws_seq ?_
  refine ws_region ?_
  refine wl_x (ox_lss rfl rfl rfl) rfl rfl rfl ?_
  refine wl_nil ?_
  refine nx_then ?_
  refine ws_seq ?_
  refine ws_if rfl (fun hlt => ?_) (fun hlt => ?_)
  · skip
    have hkn : k < n := by omega
    have hks : k < seen1.length := by rw [hL.slen]; omega
    have hkp : k < part.length := by omega
    have hRs := OwnL.rd hS1 (h := h) (ms := [Blk g2 72 [vs], m1, mp1]) (.tail _ (.head _))
    refine ws_skip ?_
    refine nx_then ?_
    refine ws_seq ?_
    refine ws_block ?_
    refine ws_seq ?_
    refine ws_region ?_
    refine wl_x (ox_move rfl rfl) rfl rfl rfl ?_
    refine wl_x (ox_assign rfl rfl) rfl rfl rfl ?_
    refine wl_nil ?_
    refine nx_then ?_
    refine ws_seq ?_
    refine ws_seq ?_
    refine ws_region ?_
    refine wl_x (ox_load rfl Try.underlying72 rfl rfl (by first | exact Cell.blk0 0 rfl rfl | exact hRs.cell0 hks rfl | exact c3.any)) rfl rfl rfl ?_
    refine wl_x (ox_move rfl rfl) rfl rfl rfl ?_
    first | refine wl_x (ox_index _ rfl Try.underlying72 el4 rfl rfl rfl (by omega)) rfl rfl rfl ?_ | refine wl_x (ox_indexR _ hRs.rd rfl Try.underlying72 el4 rfl rfl rfl (by omega)) rfl rfl rfl ?_
    refine wl_x (ox_load rfl Try.underlying4 rfl rfl (by first | exact Cell.blk0 0 rfl rfl | exact hRs.cell0 hks rfl | exact c3.any)) rfl rfl rfl ?_
    refine wl_x (ox_move rfl rfl) rfl rfl rfl ?_
    refine wl_splitb (t := 17) rfl (fun hsk => ?_) (fun hsk => ?_)
    · skip
      refine wl_skip rfl rfl rfl rfl rfl rfl rfl ?_
      refine wl_skip rfl rfl rfl rfl rfl rfl rfl ?_
      refine wl_skip rfl rfl rfl rfl rfl rfl rfl ?_
      refine wl_skip rfl rfl rfl rfl rfl rfl rfl ?_
      refine wl_skip rfl rfl rfl rfl rfl rfl rfl ?_
      refine wl_x (ox_pick_t rfl rfl rfl) rfl rfl rfl ?_
      refine wl_nil ?_
      refine nx_then ?_
      refine ws_cond_t rfl ?_
      refine ws_exit ?_
      refine nx_then_exit ?_
      refine nx_block_exit ?_
      refine nx_then ?_
      refine ws_region ?_
      refine wl_x (ox_add rfl rfl rfl (by omega)) rfl rfl rfl ?_
      refine wl_x (ox_move rfl rfl) rfl rfl rfl ?_
      refine wl_nil ?_
      refine nx_round (n - (k + 1)) _ (by omega) ⟨k + 1, seen1, m1, mp1, rfl, rfl, rfl, rfl, by omega, hS1, hP1, hL.skip (.inl (by rw [List.getElem?_eq_getElem hks, hsk]))⟩ (by repeat (first | exact trivial | refine ⟨rfl, ?_⟩))
    · skip
      refine wl_gx (ox_load rfl Try.underlying70 rfl rfl (by first | exact Cell.blk0 0 rfl rfl | exact hRs.cell0 hks rfl | exact c3.any)) rfl rfl rfl rfl rfl rfl ?_
      refine wl_gx (ox_move rfl rfl) rfl rfl rfl rfl rfl rfl ?_
      refine wl_gx (ox_move rfl rfl) rfl rfl rfl rfl rfl rfl ?_
      refine wl_gx (ox_callv rfl rfl Try.call48 rfl (fits_ok la lb va vb ga gb gc cost h hRa hRb hla hlb hA hB ca cb cc i k rfl rfl _)) rfl rfl rfl rfl rfl rfl ?_
      refine wl_gx (ox_not rfl rfl) rfl rfl rfl rfl rfl rfl ?_
      refine wl_x (ox_pick_f rfl rfl rfl) rfl rfl rfl ?_
      refine wl_nil ?_
      refine nx_then ?_
      refine ws_cond rfl (fun hft => ?_) (fun hft => ?_)
      · skip
        refine ws_exit ?_
        refine nx_then_exit ?_
        refine nx_block_exit ?_
        refine nx_then ?_
        refine ws_region ?_
        refine wl_x (ox_add rfl rfl rfl (by omega)) rfl rfl rfl ?_
        refine wl_x (ox_move rfl rfl) rfl rfl rfl ?_
        refine wl_nil ?_
        refine nx_round (n - (k + 1)) _ (by omega) ⟨k + 1, seen1, m1, mp1, rfl, rfl, rfl, rfl, by omega, hS1, hP1, hL.skip (.inr (by simpa using hft))⟩ (by repeat (first | exact trivial | refine ⟨rfl, ?_⟩))
      · skip
        have hft' : fitsD la lb cost i k = true := by simpa using hft
        have h0 : seen1[k]? ≠ some true := by rw [List.getElem?_eq_getElem hks, hsk]; simp
        refine ws_skip ?_
        refine nx_then ?_
        refine ws_seq ?_
        refine ws_region ?_
        refine wl_x (ox_load rfl Try.underlying72 rfl rfl (by first | exact Cell.blk0 0 rfl rfl | exact hRs.cell0 hks rfl | exact c3.any)) rfl rfl rfl ?_
        refine wl_x (ox_move rfl rfl) rfl rfl rfl ?_
        first | refine wl_x (ox_index _ rfl Try.underlying72 el4 rfl rfl rfl (by omega)) rfl rfl rfl ?_ | refine wl_x (ox_indexR _ hRs.rd rfl Try.underlying72 el4 rfl rfl rfl (by omega)) rfl rfl rfl ?_
        refine wl_storeL1 (F := cB) (f := fun x => .bool x) (a := true) 1 k (fun _ => rfl) hS1 rfl el4 rfl rfl rfl rfl hks rfl rfl (fun m2 hS2 => ?_)
        have hRp := OwnL.rd hP1 (h := h) (ms := [Blk g2 72 [vs], m2, mp1]) (.tail _ (.tail _ (.head _)))
        refine wl_nil ?_
        refine nx_then ?_
        refine ws_seq ?_
        refine ws_draw 11 fol (by kernel_rfl) rfl ?_
        simp only [List.take_succ_cons, List.take_zero, List.drop_succ_cons, List.drop_zero, List.take_nil, List.drop_nil]
        refine wr_x (ox_load rfl Try.underlying23 rfl rfl (by first | exact c4.any | exact hRp.cell0 hkp rfl | exact c5.any)) rfl rfl ?_
        refine wr_x (ox_move rfl rfl) rfl rfl ?_
        first | refine wr_x (ox_index _ rfl Try.underlying23 el3 rfl rfl rfl (by omega)) rfl rfl ?_ | refine wr_x (ox_indexR _ hRp.rd rfl Try.underlying23 el3 rfl rfl rfl (by omega)) rfl rfl ?_
        refine wr_x (ox_load rfl Try.underlying3 rfl rfl (by first | exact c4.any | exact hRp.cell0 hkp rfl | exact c5.any)) rfl rfl ?_
        refine wr_x (ox_lss rfl rfl rfl) rfl rfl ?_
        refine wr_x (ox_move rfl rfl) rfl rfl ?_
        refine wr_split (t := 32) rfl (fun hneg => ?_) (fun hneg => ?_)
        · skip
          refine wr_skip rfl rfl rfl rfl rfl ?_
          refine wr_skip rfl rfl rfl rfl rfl ?_
          refine wr_skip rfl rfl rfl rfl rfl ?_
          refine wr_skip rfl rfl rfl rfl rfl ?_
          refine wr_skip rfl rfl rfl rfl rfl ?_
          refine wr_nil ?_
          refine wl_skip rfl rfl rfl rfl rfl rfl rfl ?_
          refine wl_x (ox_pick_t rfl rfl rfl) rfl rfl rfl ?_
          refine wl_nil ?_
          refine nx_then ?_
          refine ws_cond_t rfl ?_
          refine ws_seq ?_
          refine ws_region ?_
          refine wl_x (ox_load rfl Try.underlying23 rfl rfl (by first | exact c4.any | exact hRp.cell0 hkp rfl | exact c5.any)) rfl rfl rfl ?_
          refine wl_x (ox_move rfl rfl) rfl rfl rfl ?_
          refine wl_x (ox_move rfl rfl) rfl rfl rfl ?_
          first | refine wl_x (ox_index _ rfl Try.underlying23 el3 rfl rfl rfl (by omega)) rfl rfl rfl ?_ | refine wl_x (ox_indexR _ hRp.rd rfl Try.underlying23 el3 rfl rfl rfl (by omega)) rfl rfl rfl ?_
          refine wl_storeL1 (F := cI) (f := fun x => .int .i64 x) (a := (i : Int)) 2 k (fun _ => rfl) hP1 rfl el3 rfl rfl rfl rfl hkp rfl rfl (fun m3 hP3 => ?_)
          refine wl_nil ?_
          refine nx_then ?_
          refine ws_seq ?_
          refine ws_region ?_
          refine wl_x (ox_assign rfl rfl) rfl rfl rfl ?_
          refine wl_nil ?_
          refine nx_then ?_
          refine ws_ret ?_
          refine nx_block_ret ?_
          refine nx_then_ret ?_
          refine nx_then_ret ?_
          refine nx_block_ret ?_
          refine nx_then_ret ?_
          have hT := hL.free hK hi hkp hks h0 hft' hneg
          exact nx_ret1 rfl rfl (⟨true, m2, m3, _, _, rfl, rfl, rfl, hS2, hP3, hT.pre, hT.plen, hT.slen, fun _ => hT, fun h => (by cases h)⟩)
        · skip
          obtain ⟨p, hp, hpn, hpf⟩ : ∃ p : Nat, part[k] = (p : Int) ∧ p < n ∧ fitsD la lb cost p k = true := by
            rcases hK k hkp with h1 | h1
            · omega
            · exact h1
          have hp' : part[k]? = some (p : Int) := by rw [List.getElem?_eq_getElem hkp, hp]
          have hu : unseen (seen1.set k true) < N := by
            have u1 := unseen_set seen1 k hks hsk
            have u2 := unseen_mono seen seen1 hL.slen hL.mono
            omega
          refine wr_gx (ox_load rfl Try.underlying61 rfl rfl (by first | exact c4.any | exact hRp.cell0 hkp rfl | exact c5.any)) rfl rfl rfl rfl ?_
          refine wr_gx (ox_load rfl Try.underlying23 rfl rfl (by first | exact c4.any | exact hRp.cell0 hkp rfl | exact c5.any)) rfl rfl rfl rfl ?_
          refine wr_gx (ox_move rfl rfl) rfl rfl rfl rfl ?_
          first | refine wr_gx (ox_index _ rfl Try.underlying23 el3 rfl rfl rfl (by omega)) rfl rfl rfl rfl ?_ | refine wr_gx (ox_indexR _ hRp.rd rfl Try.underlying23 el3 rfl rfl rfl (by omega)) rfl rfl rfl rfl ?_
          refine wr_gx (ox_load rfl Try.underlying3 rfl rfl (by first | exact c4.any | exact hRp.cell0 hkp rfl | exact c5.any)) rfl rfl rfl rfl ?_
          refine wr_nil ?_
          refine wl_gcallv_ (pre := [Blk g2 72 [vs], m2, mp1]) rfl rfl Try.call50 rfl (ih _ hu p (seen1.set k true) part m2 mp1 (Nat.le_refl _) hpn (by rw [List.length_set, hL.slen]; exact hsl) hpl hK hS2 hP1 hp) rfl rfl rfl rfl rfl rfl rfl (fun _ _ _ _ hF => ?_)
          obtain ⟨b, m3, mp3, seen3, part3, rfl, rfl, rfl, hS3, hP3, hK3, hpl3, hsl3, hT, hFa⟩ := hF
          simp only [List.cons_append, List.nil_append, List.append_nil]
          refine wl_x (ox_pick_f rfl rfl rfl) rfl rfl rfl ?_
          refine wl_nil ?_
          refine nx_then ?_
          refine ws_cond rfl (fun hb => ?_) (fun hb => ?_)
          · skip
            have hT := hL.moved hi hkp hks h0 hft' hp' (hT hb)
            have hRp := OwnL.rd hP3 (h := h) (ms := [Blk g2 72 [vs], m3, mp3]) (.tail _ (.tail _ (.head _)))
            have hkp3 : k < part3.length := by omega
            refine ws_seq ?_
            refine ws_region ?_
            refine wl_x (ox_load rfl Try.underlying23 rfl rfl (by first | exact c4.any | exact hRp.cell0 hkp rfl | exact c5.any)) rfl rfl rfl ?_
            refine wl_x (ox_move rfl rfl) rfl rfl rfl ?_
            refine wl_x (ox_move rfl rfl) rfl rfl rfl ?_
            first | refine wl_x (ox_index _ rfl Try.underlying23 el3 rfl rfl rfl (by omega)) rfl rfl rfl ?_ | refine wl_x (ox_indexR _ hRp.rd rfl Try.underlying23 el3 rfl rfl rfl (by omega)) rfl rfl rfl ?_
            refine wl_storeL1 (F := cI) (f := fun x => .int .i64 x) (a := (i : Int)) 2 k (fun _ => rfl) hP3 rfl el3 rfl rfl rfl rfl (by rw [hpl3]; exact hkp) rfl rfl (fun m4 hP4 => ?_)
            refine wl_nil ?_
            refine nx_then ?_
            refine ws_seq ?_
            refine ws_region ?_
            refine wl_x (ox_assign rfl rfl) rfl rfl rfl ?_
            refine wl_nil ?_
            refine nx_then ?_
            refine ws_ret ?_
            refine nx_block_ret ?_
            refine nx_then_ret ?_
            refine nx_then_ret ?_
            refine nx_block_ret ?_
            refine nx_then_ret ?_
            exact nx_ret1 rfl rfl (⟨true, m3, m4, _, _, rfl, rfl, rfl, hS3, hP4, hT.pre, hT.plen, hT.slen, fun _ => hT, fun h => (by cases h)⟩)
          · skip
            obtain ⟨rfl, hLF⟩ := hFa hb
            refine ws_skip ?_
            refine nx_block ?_
            refine nx_then ?_
            refine ws_region ?_
            refine wl_x (ox_add rfl rfl rfl (by omega)) rfl rfl rfl ?_
            refine wl_x (ox_move rfl rfl) rfl rfl rfl ?_
            refine wl_nil ?_
            refine nx_round (n - (k + 1)) _ (by omega) ⟨k + 1, seen3, m3, mp3, rfl, rfl, rfl, rfl, by omega, hS3, hP3, hL.fail hks hp' hLF⟩ (by repeat (first | exact trivial | refine ⟨rfl, ?_⟩))
  · skip
    obtain rfl : k = n := by omega
    refine ws_exit ?_
    refine nx_then_exit ?_
    refine nx_then_exit ?_
    refine nx_block_exit ?_
    refine nx_then ?_
    refine ws_seq ?_
    refine ws_region ?_
    refine wl_x (ox_assign rfl rfl) rfl rfl rfl ?_
    refine wl_nil ?_
    refine nx_then ?_
    refine ws_ret ?_
    exact nx_ret1 rfl rfl (⟨false, m1, mp1, seen1, part, rfl, rfl, rfl, hS1, hP1, hK, rfl, hL.slen, fun h => (by cases h), fun _ => ⟨rfl, hL⟩⟩)
end Go.Proofs.Ythdkhnjnhhofgaa
