/- Walks: a possible cost, whole. -/
import Derived.Test.YthdkhnjnhhofgaaWf
import Derived.Test.YthdkhnjnhhofgaaKq
set_option linter.unusedSimpArgs false
set_option linter.unusedVariables false
set_option maxRecDepth 100000
namespace Go.Proofs.Ythdkhnjnhhofgaa
open Go.Eng Go.RowKit Go.Kuhn

theorem own_rep (g n : Nat) (hn : n ≤ 9223372036854775807) : OwnL cB 1 4 (Blk g 4 (List.replicate n (Value.bool false))) (.slice (some ⟨g, 0, none⟩) n n) (List.replicate n false) :=
  ⟨⟨by rw [← cB_rep]; simp, .inr ⟨g, n, [], by simp, by rw [← cB_rep]; simp, by rw [← cB_rep]; simp, by simp, hn⟩⟩, cB_len⟩

theorem possible_ok (la lb : List Br) (va vb : Value) (cost : Int) (h : Hp) (hRa : RdL cBr 6 h [] va la) (hRb : RdL cBr 6 h [] vb lb) (hla : la.length ≤ 1000000) (hlb : lb.length ≤ 1000000) (hA : ∀ b ∈ la, BOk b) (hB : ∀ b ∈ lb, BOk b) :
    FnT Try.prog 37 #[va, vb, .int .i64 cost] h [] (fun r _ _ => ∃ b, r = .bool b ∧ (b = true → Pos (fitsD la lb cost) (la.length + lb.length)) ∧ (b = false → Neg (fitsD la lb cost) (la.length + lb.length))) := by
  refine fn_enter Try.func37 Try.ntmps37 rfl rfl (fun w0 hw0 => ?_)
  simp only [argS]
  refine ws_seq ?_
  refine ws_region ?_
  refine wl_box [_] rfl rfl (by first | rfl | exact Rd.cells ‹_› | exact (RdL.rd ‹_›).cells) rfl rfl rfl (fun g3 => ?_)
  refine wl_box [_] rfl rfl (by first | rfl | exact Rd.cells ‹_› | exact (RdL.rd ‹_›).cells) rfl rfl rfl (fun g4 => ?_)
  refine wl_box [_] rfl rfl (by first | rfl | exact Rd.cells ‹_› | exact (RdL.rd ‹_›).cells) rfl rfl rfl (fun g5 => ?_)
  refine wl_x (ox_assign rfl rfl) rfl rfl rfl ?_
  refine wl_nil ?_
  refine nx_then ?_
  refine ws_seq ?_
  refine ws_region ?_
  refine wl_x (ox_load rfl Try.underlying25 rfl rfl (by first | exact Cell.blk0 0 rfl rfl | exact Cell.blk0 1 rfl rfl | exact Cell.blk0 2 rfl rfl | exact Cell.blk0 3 rfl rfl | exact Cell.blk0 4 rfl rfl | exact Cell.blk0 5 rfl rfl | exact Cell.blk0 6 rfl rfl | exact Cell.blk0 7 rfl rfl)) rfl rfl rfl ?_
  first | refine wl_x (ox_len (ty := 25) rfl Try.underlying25 rfl) rfl rfl rfl ?_ | refine wl_x (ox_lenR hRa.rd.any rfl Try.underlying25 rfl) rfl rfl rfl ?_ | refine wl_x (ox_lenR hRb.rd.any rfl Try.underlying25 rfl) rfl rfl rfl ?_
  refine wl_x (ox_load rfl Try.underlying25 rfl rfl (by first | exact Cell.blk0 0 rfl rfl | exact Cell.blk0 1 rfl rfl | exact Cell.blk0 2 rfl rfl | exact Cell.blk0 3 rfl rfl | exact Cell.blk0 4 rfl rfl | exact Cell.blk0 5 rfl rfl | exact Cell.blk0 6 rfl rfl | exact Cell.blk0 7 rfl rfl)) rfl rfl rfl ?_
  first | refine wl_x (ox_len (ty := 25) rfl Try.underlying25 rfl) rfl rfl rfl ?_ | refine wl_x (ox_lenR hRa.rd.any rfl Try.underlying25 rfl) rfl rfl rfl ?_ | refine wl_x (ox_lenR hRb.rd.any rfl Try.underlying25 rfl) rfl rfl rfl ?_
  refine wl_x (ox_add rfl rfl rfl (by omega)) rfl rfl rfl ?_
  refine wl_alloc [.int .i64 0] rfl el3 rfl rfl rfl rfl (fun g7 => ?_)
  first | refine wl_storeAt 0 0 rfl el3 rfl rfl (by first | rfl | exact Rd.one ‹_› | exact (RdL.rd ‹_›).one) rfl rfl (by first | decide | (simp; done) | (simp; omega)) rfl rfl ?_ | refine wl_storeAt 1 0 rfl el3 rfl rfl (by first | rfl | exact Rd.one ‹_› | exact (RdL.rd ‹_›).one) rfl rfl (by first | decide | (simp; done) | (simp; omega)) rfl rfl ?_ | refine wl_storeAt 2 0 rfl el3 rfl rfl (by first | rfl | exact Rd.one ‹_› | exact (RdL.rd ‹_›).one) rfl rfl (by first | decide | (simp; done) | (simp; omega)) rfl rfl ?_ | refine wl_storeAt 3 0 rfl el3 rfl rfl (by first | rfl | exact Rd.one ‹_› | exact (RdL.rd ‹_›).one) rfl rfl (by first | decide | (simp; done) | (simp; omega)) rfl rfl ?_ | refine wl_storeAt 4 0 rfl el3 rfl rfl (by first | rfl | exact Rd.one ‹_› | exact (RdL.rd ‹_›).one) rfl rfl (by first | decide | (simp; done) | (simp; omega)) rfl rfl ?_ | refine wl_storeAt 5 0 rfl el3 rfl rfl (by first | rfl | exact Rd.one ‹_› | exact (RdL.rd ‹_›).one) rfl rfl (by first | decide | (simp; done) | (simp; omega)) rfl rfl ?_ | refine wl_storeAt 6 0 rfl el3 rfl rfl (by first | rfl | exact Rd.one ‹_› | exact (RdL.rd ‹_›).one) rfl rfl (by first | decide | (simp; done) | (simp; omega)) rfl rfl ?_ | refine wl_storeAt 7 0 rfl el3 rfl rfl (by first | rfl | exact Rd.one ‹_› | exact (RdL.rd ‹_›).one) rfl rfl (by first | decide | (simp; done) | (simp; omega)) rfl rfl ?_
  refine wl_nil ?_
  refine nx_then ?_
  refine ws_seq ?_
  refine ws_region ?_
  refine wl_x (ox_makeFunc rfl rfl rfl) rfl rfl rfl ?_
  refine wl_alloc [.nilFunc] rfl el70 rfl rfl rfl rfl (fun g8 => ?_)
  first | refine wl_storeAt 0 0 rfl el70 rfl rfl (by first | rfl | exact Rd.one ‹_› | exact (RdL.rd ‹_›).one) rfl rfl (by first | decide | (simp; done) | (simp; omega)) rfl rfl ?_ | refine wl_storeAt 1 0 rfl el70 rfl rfl (by first | rfl | exact Rd.one ‹_› | exact (RdL.rd ‹_›).one) rfl rfl (by first | decide | (simp; done) | (simp; omega)) rfl rfl ?_ | refine wl_storeAt 2 0 rfl el70 rfl rfl (by first | rfl | exact Rd.one ‹_› | exact (RdL.rd ‹_›).one) rfl rfl (by first | decide | (simp; done) | (simp; omega)) rfl rfl ?_ | refine wl_storeAt 3 0 rfl el70 rfl rfl (by first | rfl | exact Rd.one ‹_› | exact (RdL.rd ‹_›).one) rfl rfl (by first | decide | (simp; done) | (simp; omega)) rfl rfl ?_ | refine wl_storeAt 4 0 rfl el70 rfl rfl (by first | rfl | exact Rd.one ‹_› | exact (RdL.rd ‹_›).one) rfl rfl (by first | decide | (simp; done) | (simp; omega)) rfl rfl ?_ | refine wl_storeAt 5 0 rfl el70 rfl rfl (by first | rfl | exact Rd.one ‹_› | exact (RdL.rd ‹_›).one) rfl rfl (by first | decide | (simp; done) | (simp; omega)) rfl rfl ?_ | refine wl_storeAt 6 0 rfl el70 rfl rfl (by first | rfl | exact Rd.one ‹_› | exact (RdL.rd ‹_›).one) rfl rfl (by first | decide | (simp; done) | (simp; omega)) rfl rfl ?_ | refine wl_storeAt 7 0 rfl el70 rfl rfl (by first | rfl | exact Rd.one ‹_› | exact (RdL.rd ‹_›).one) rfl rfl (by first | decide | (simp; done) | (simp; omega)) rfl rfl ?_
  refine wl_nil ?_
  refine nx_then ?_
  refine ws_seq ?_
  refine ws_region ?_
  refine wl_buildSlice1 [_] rfl Try.underlying23 el3 rfl (by first | rfl | exact Rd.cells ‹_› | exact (RdL.rd ‹_›).cells) rfl rfl (by omega) rfl rfl rfl (fun g19 => ?_)
  refine wl_freezeB (fun h1 hle1 s19 => ?_)
  have hR19 : RdL cI 1 h1 [] (.slice (some ⟨g19, 0, none⟩) 1 1) [-1] := ⟨⟨_, 1, rfl, by simp, by omega, rfl, fun _ => ⟨_, rfl, s19⟩⟩, cI_len⟩
  obtain ⟨n, hn⟩ : ∃ n, n = la.length + lb.length := ⟨_, rfl⟩
  rw [← hn]
  refine wl_x (ox_load rfl Try.underlying3 rfl rfl (by first | exact Cell.blk0 0 rfl rfl | exact Cell.blk0 1 rfl rfl | exact Cell.blk0 2 rfl rfl | exact Cell.blk0 3 rfl rfl | exact Cell.blk0 4 rfl rfl | exact Cell.blk0 5 rfl rfl | exact Cell.blk0 6 rfl rfl | exact Cell.blk0 7 rfl rfl)) rfl rfl rfl ?_
  refine wl_call rfl Try.call49 rfl (repeat_ok n (by omega) _ h1 hR19 (by omega)) rfl rfl rfl (fun vp _ _ _ hL => ?_)
  obtain ⟨rfl, mp, rfl, hP⟩ := hL
  simp only [List.cons_append, List.nil_append]
  have hRp := OwnL.rd hP (h := h1) (ms := [mp]) (.head _)
  refine wl_alloc [.slice none 0 0] rfl el23 rfl rfl rfl rfl (fun g9 => ?_)
  first | refine wl_storeAt 0 0 rfl el23 rfl rfl (by first | rfl | exact Rd.one ‹_› | exact (RdL.rd ‹_›).one) rfl rfl (by first | decide | (simp; done) | (simp; omega)) rfl rfl ?_ | refine wl_storeAt 1 0 rfl el23 rfl rfl (by first | rfl | exact Rd.one ‹_› | exact (RdL.rd ‹_›).one) rfl rfl (by first | decide | (simp; done) | (simp; omega)) rfl rfl ?_ | refine wl_storeAt 2 0 rfl el23 rfl rfl (by first | rfl | exact Rd.one ‹_› | exact (RdL.rd ‹_›).one) rfl rfl (by first | decide | (simp; done) | (simp; omega)) rfl rfl ?_ | refine wl_storeAt 3 0 rfl el23 rfl rfl (by first | rfl | exact Rd.one ‹_› | exact (RdL.rd ‹_›).one) rfl rfl (by first | decide | (simp; done) | (simp; omega)) rfl rfl ?_ | refine wl_storeAt 4 0 rfl el23 rfl rfl (by first | rfl | exact Rd.one ‹_› | exact (RdL.rd ‹_›).one) rfl rfl (by first | decide | (simp; done) | (simp; omega)) rfl rfl ?_ | refine wl_storeAt 5 0 rfl el23 rfl rfl (by first | rfl | exact Rd.one ‹_› | exact (RdL.rd ‹_›).one) rfl rfl (by first | decide | (simp; done) | (simp; omega)) rfl rfl ?_ | refine wl_storeAt 6 0 rfl el23 rfl rfl (by first | rfl | exact Rd.one ‹_› | exact (RdL.rd ‹_›).one) rfl rfl (by first | decide | (simp; done) | (simp; omega)) rfl rfl ?_ | refine wl_storeAt 7 0 rfl el23 rfl rfl (by first | rfl | exact Rd.one ‹_› | exact (RdL.rd ‹_›).one) rfl rfl (by first | decide | (simp; done) | (simp; omega)) rfl rfl ?_
  refine wl_nil ?_
  refine nx_then ?_
  refine ws_seq ?_
  refine ws_region ?_
  refine wl_alloc [.slice none 0 0] rfl el72 rfl rfl rfl rfl (fun g10 => ?_)
  refine wl_nil ?_
  refine nx_then ?_
  refine ws_seq ?_
  refine ws_region ?_
  refine wl_alloc [.nilFunc] rfl el61 rfl rfl rfl rfl (fun g11 => ?_)
  refine wl_nil ?_
  refine nx_then ?_
  refine ws_seq ?_
  refine ws_region ?_
  refine wl_x (ox_makeFunc rfl rfl rfl) rfl rfl rfl ?_
  first | refine wl_storeAt 0 0 rfl el61 rfl rfl (by first | rfl | exact Rd.one ‹_› | exact (RdL.rd ‹_›).one) rfl rfl (by first | decide | (simp; done) | (simp; omega)) rfl rfl ?_ | refine wl_storeAt 1 0 rfl el61 rfl rfl (by first | rfl | exact Rd.one ‹_› | exact (RdL.rd ‹_›).one) rfl rfl (by first | decide | (simp; done) | (simp; omega)) rfl rfl ?_ | refine wl_storeAt 2 0 rfl el61 rfl rfl (by first | rfl | exact Rd.one ‹_› | exact (RdL.rd ‹_›).one) rfl rfl (by first | decide | (simp; done) | (simp; omega)) rfl rfl ?_ | refine wl_storeAt 3 0 rfl el61 rfl rfl (by first | rfl | exact Rd.one ‹_› | exact (RdL.rd ‹_›).one) rfl rfl (by first | decide | (simp; done) | (simp; omega)) rfl rfl ?_ | refine wl_storeAt 4 0 rfl el61 rfl rfl (by first | rfl | exact Rd.one ‹_› | exact (RdL.rd ‹_›).one) rfl rfl (by first | decide | (simp; done) | (simp; omega)) rfl rfl ?_ | refine wl_storeAt 5 0 rfl el61 rfl rfl (by first | rfl | exact Rd.one ‹_› | exact (RdL.rd ‹_›).one) rfl rfl (by first | decide | (simp; done) | (simp; omega)) rfl rfl ?_ | refine wl_storeAt 6 0 rfl el61 rfl rfl (by first | rfl | exact Rd.one ‹_› | exact (RdL.rd ‹_›).one) rfl rfl (by first | decide | (simp; done) | (simp; omega)) rfl rfl ?_ | refine wl_storeAt 7 0 rfl el61 rfl rfl (by first | rfl | exact Rd.one ‹_› | exact (RdL.rd ‹_›).one) rfl rfl (by first | decide | (simp; done) | (simp; omega)) rfl rfl ?_
  refine wl_nil ?_
  refine nx_then ?_
  refine ws_freezeI 0 rfl (fun h2 l2 s11 => ?_)
  refine ws_freezeI 1 rfl (fun h3 l3 s9 => ?_)
  refine ws_freezeI 2 rfl (fun h4 l4 s8 => ?_)
  refine ws_freezeI 2 rfl (fun h5 l5 s7 => ?_)
  refine ws_freezeI 2 rfl (fun h6 l6 s5 => ?_)
  refine ws_freezeI 2 rfl (fun h7 l7 s4 => ?_)
  refine ws_freezeI 2 rfl (fun h8 l8 s3 => ?_)
  have t3 := l8
  have t4 := Hp.le_trans l7 t3
  have t5 := Hp.le_trans l6 t4
  have t6 := Hp.le_trans l5 t5
  have t7 := Hp.le_trans l4 t6
  have t8 := Hp.le_trans l3 t7
  have t9 := Hp.le_trans l2 t8
  have t10 := Hp.le_trans hle1 t9
  have ca : Cell h8 [] ⟨g3, 0, none⟩ va := s3.at0 rfl
  have cb : Cell h8 [] ⟨g4, 0, none⟩ vb := (s4.at0 rfl).le t3
  have cc : Cell h8 [] ⟨g5, 0, none⟩ (.int .i64 cost) := (s5.at0 rfl).le t4
  have c7 : Cell h8 [] ⟨g7, 0, none⟩ (.int .i64 n) := (s7.le t5).at0 (by rw [hn]; simp)
  have c8 : Cell h8 [] ⟨g8, 0, none⟩ (fitsV g3 g4 g5) := (s8.at0 rfl).le t6
  have c9 : Cell h8 [] ⟨g9, 0, none⟩ vp := (s9.at0 rfl).le t7
  have c11 : Cell h8 [] ⟨g11, 0, none⟩ (findV g7 g10 g8 g9 g11) := (s11.at0 rfl).le t8
  have hRa' := hRa.up t10
  have hRb' := hRb.up t10
  clear s3 s4 s5 s7 s8 s9 s11 s19 hR19 t3 t4 t5 t6 t7 t8 t9 t10 l2 l3 l4 l5 l6 l7 l8 hle1
  try simp only [List.eraseIdx_cons_zero, List.eraseIdx_cons_succ]
  have hcnt : ∀ x : Nat, (List.replicate n (-1 : Int)).count (x : Int) = if x < 0 then 1 else 0 := fun x => by
    rw [List.count_replicate, if_neg (by simp), if_neg (by omega)]
  have hK0 : KPre (fitsD la lb cost) n (List.replicate n (-1)) := fun k hk => .inl (by simp)
  refine ws_seq ?_
  refine ws_seq ?_
  refine ws_region ?_
  refine wl_x (ox_load rfl Try.underlying3 rfl rfl (by first | exact Cell.blk0 0 rfl rfl | exact Cell.blk0 1 rfl rfl | exact Cell.blk0 2 rfl rfl | exact Cell.blk0 3 rfl rfl | exact Cell.blk0 4 rfl rfl | exact Cell.blk0 5 rfl rfl | exact Cell.blk0 6 rfl rfl | exact Cell.blk0 7 rfl rfl | exact c7.any | exact c11.any)) rfl rfl rfl ?_
  refine wl_x (ox_move rfl rfl) rfl rfl rfl ?_
  refine wl_nil ?_
  refine nx_then ?_
  refine ws_block ?_
  refine ws_loop (fun q s h' ms' => ∃ (i : Nat) (part : List Int) (m : Hp) (vold : Value), q = n - i ∧ s = [(7, pA g7), (10, pA g10), (11, pA g11), (23, .int .i64 n), (24, .int .i64 i)] ∧ h8 = h' ∧ ms' = [Blk g10 72 [vold], m] ∧ i ≤ n ∧ part.length = n ∧ OwnL cI 1 3 m vp part ∧ KPre (fitsD la lb cost) n part ∧ ∀ x : Nat, part.count (x : Int) = if x < i then 1 else 0)
    (n - 0) _ ⟨0, _, mp, _, rfl, rfl, rfl, rfl, by omega, by simp, hP, hK0, hcnt⟩ (by repeat (first | exact trivial | refine ⟨rfl, ?_⟩)) ?_
  clear hcnt hP hRp
  rintro q s h' ms' ⟨i, part, m, vold, rfl, rfl, rfl, rfl, hi, hpl, hP, hK, hcnt⟩
  clear hK0
  refine ws_seq ?_
  refine ws_region ?_
  refine wl_x (ox_lss rfl rfl rfl) rfl rfl rfl ?_
  refine wl_nil ?_
  refine nx_then ?_
  refine ws_seq ?_
  refine ws_if rfl (fun hlt => ?_) (fun hlt => ?_)
  · skip
    refine ws_skip ?_
    refine nx_then ?_
    refine ws_seq ?_
    refine ws_block ?_
    refine ws_seq ?_
    refine ws_region ?_
    refine wl_x (ox_move rfl rfl) rfl rfl rfl ?_
    refine wl_x (ox_assign rfl rfl) rfl rfl rfl ?_
    refine wl_nil ?_
    refine nx_then ?_
    refine ws_seq ?_
    refine ws_region ?_
    refine wl_x (ox_load rfl Try.underlying3 rfl rfl (by first | exact Cell.blk0 0 rfl rfl | exact Cell.blk0 1 rfl rfl | exact Cell.blk0 2 rfl rfl | exact Cell.blk0 3 rfl rfl | exact Cell.blk0 4 rfl rfl | exact Cell.blk0 5 rfl rfl | exact Cell.blk0 6 rfl rfl | exact Cell.blk0 7 rfl rfl | exact c7.any | exact c11.any)) rfl rfl rfl ?_
    refine wl_make (n := n) rfl Try.underlying72 el4 rfl rfl rfl (by first | rfl | omega) (by first | rfl | omega) (by omega) (by omega) rfl rfl rfl (fun g28 => ?_)
    first | refine wl_storeAt 0 0 rfl el72 rfl rfl (by first | rfl | exact Rd.one ‹_› | exact (RdL.rd ‹_›).one) rfl rfl (by first | decide | (simp; done) | (simp; omega)) rfl rfl ?_ | refine wl_storeAt 1 0 rfl el72 rfl rfl (by first | rfl | exact Rd.one ‹_› | exact (RdL.rd ‹_›).one) rfl rfl (by first | decide | (simp; done) | (simp; omega)) rfl rfl ?_ | refine wl_storeAt 2 0 rfl el72 rfl rfl (by first | rfl | exact Rd.one ‹_› | exact (RdL.rd ‹_›).one) rfl rfl (by first | decide | (simp; done) | (simp; omega)) rfl rfl ?_ | refine wl_storeAt 3 0 rfl el72 rfl rfl (by first | rfl | exact Rd.one ‹_› | exact (RdL.rd ‹_›).one) rfl rfl (by first | decide | (simp; done) | (simp; omega)) rfl rfl ?_ | refine wl_storeAt 4 0 rfl el72 rfl rfl (by first | rfl | exact Rd.one ‹_› | exact (RdL.rd ‹_›).one) rfl rfl (by first | decide | (simp; done) | (simp; omega)) rfl rfl ?_ | refine wl_storeAt 5 0 rfl el72 rfl rfl (by first | rfl | exact Rd.one ‹_› | exact (RdL.rd ‹_›).one) rfl rfl (by first | decide | (simp; done) | (simp; omega)) rfl rfl ?_ | refine wl_storeAt 6 0 rfl el72 rfl rfl (by first | rfl | exact Rd.one ‹_› | exact (RdL.rd ‹_›).one) rfl rfl (by first | decide | (simp; done) | (simp; omega)) rfl rfl ?_ | refine wl_storeAt 7 0 rfl el72 rfl rfl (by first | rfl | exact Rd.one ‹_› | exact (RdL.rd ‹_›).one) rfl rfl (by first | decide | (simp; done) | (simp; omega)) rfl rfl ?_
    refine wl_nil ?_
    refine nx_then ?_
    refine ws_seq ?_
    refine ws_region ?_
    refine wl_x (ox_load rfl Try.underlying61 rfl rfl (by first | exact Cell.blk0 0 rfl rfl | exact Cell.blk0 1 rfl rfl | exact Cell.blk0 2 rfl rfl | exact Cell.blk0 3 rfl rfl | exact Cell.blk0 4 rfl rfl | exact Cell.blk0 5 rfl rfl | exact Cell.blk0 6 rfl rfl | exact Cell.blk0 7 rfl rfl | exact c7.any | exact c11.any)) rfl rfl rfl ?_
    refine wl_x (ox_move rfl rfl) rfl rfl rfl ?_
    refine wl_perm (List.Perm.swap _ _ _) ?_
    refine wl_callv_ (pre := [Blk g10 72 [.slice (some ⟨g28, 0, none⟩) n n], Blk g28 4 (List.replicate n (Value.bool false)), m]) rfl rfl Try.call50 rfl (find_ok la lb va vb g3 g4 g5 g7 g10 g8 g9 g11 cost h8 hRa' hRb' hla hlb hA hB ca cb cc n hn _ vp c7 c8 c9 c11 _ i (List.replicate n false) part _ m (Nat.le_refl _) (by omega) (by simp) hpl hK (own_rep g28 n (by omega)) hP rfl) rfl rfl rfl rfl (fun _ _ _ _ hF => ?_)
    obtain ⟨b, m1, m2, seen', part', rfl, rfl, rfl, hS1, hP1, hK1, hpl1, hsl1, hT, hFa⟩ := hF
    simp only [List.cons_append, List.nil_append, List.append_nil]
    refine wl_x (ox_not rfl rfl) rfl rfl rfl ?_
    refine wl_nil ?_
    refine nx_then ?_
    refine ws_cond rfl (fun hb => ?_) (fun hb => ?_)
    · skip
      have hb' : b = false := by simpa using hb
      obtain ⟨rfl, hL⟩ := hFa hb'
      refine ws_seq ?_
      refine ws_region ?_
      refine wl_x (ox_assign rfl rfl) rfl rfl rfl ?_
      refine wl_nil ?_
      refine nx_then ?_
      refine ws_ret ?_
      refine nx_block_ret ?_
      refine nx_then_ret ?_
      refine nx_then_ret ?_
      refine nx_block_ret ?_
      refine nx_then_ret ?_
      exact nx_ret1 rfl rfl (⟨false, rfl, fun h => (by cases h), fun _ => ⟨i, part', seen', by omega, hpl, hK, hcnt, hL⟩⟩)
    · skip
      have hb' : b = true := by simpa using hb
      have hT := hT hb'
      refine ws_skip ?_
      refine nx_block ?_
      refine nx_then ?_
      refine ws_region ?_
      refine wl_x (ox_add rfl rfl rfl (by omega)) rfl rfl rfl ?_
      refine wl_x (ox_move rfl rfl) rfl rfl rfl ?_
      refine wl_nil ?_
      refine nx_perm (ms' := [m1, Blk g10 72 [.slice (some ⟨g28, 0, none⟩) n n], m2]) (List.Perm.swap _ _ _) (nx_drop ?_)
      refine nx_round (n - (i + 1)) _ (by omega) ⟨i + 1, part', m2, _, rfl, rfl, rfl, rfl, by omega, by omega, hP1, hK1, fun x => ?_⟩ (by repeat (first | exact trivial | refine ⟨rfl, ?_⟩))
      rw [hT.cnt x, hcnt x]
      by_cases h1 : x < i
      · rw [if_pos h1, if_neg (by omega), if_pos (by omega)]
      · by_cases h2 : x = i
        · rw [if_neg h1, if_pos h2, if_pos (by omega)]
        · rw [if_neg h1, if_neg h2, if_neg (by omega)]
  · skip
    obtain rfl : i = n := by omega
    refine ws_exit ?_
    refine nx_then_exit ?_
    refine nx_then_exit ?_
    refine nx_block_exit ?_
    refine nx_then ?_
    refine ws_seq ?_
    refine ws_region ?_
    refine wl_x (ox_assign rfl rfl) rfl rfl rfl ?_
    refine wl_nil ?_
    refine nx_then ?_
    refine ws_ret ?_
    exact nx_ret1 rfl rfl (⟨true, rfl, fun _ => ⟨part, hpl, hK, fun x hx => by rw [hcnt x, if_pos hx]⟩, fun h => by cases h⟩)

open Classical in
/-- Has everyone a partner? -/
noncomputable def posB (F : Nat → Nat → Bool) (n : Nat) : Bool := decide (Pos F n)
theorem possible_v (la lb : List Br) (va vb : Value) (cost : Int) (h : Hp) (hRa : RdL cBr 6 h [] va la) (hRb : RdL cBr 6 h [] vb lb) (hla : la.length ≤ 1000000) (hlb : lb.length ≤ 1000000) (hA : ∀ b ∈ la, BOk b) (hB : ∀ b ∈ lb, BOk b) (ms : List Hp) :
    FnV Try.prog 37 #[va, vb, .int .i64 cost] h ms (.bool (posB (fitsD la lb cost) (la.length + lb.length))) := by
  refine fun w hw => (?_ : FnV _ _ _ h [] _) w (hw.weaken (Hp.le_refl _) (List.nil_sublist _))
  refine FnT.toV (FnT.mono (possible_ok la lb va vb cost h hRa hRb hla hlb hA hB) ?_)
  rintro r h' ms' ⟨b, rfl, h1, h2⟩
  unfold posB
  cases b with
  | true => simp [h1 rfl]
  | false => simp [neg_not_pos (h2 rfl)]
end Go.Proofs.Ythdkhnjnhhofgaa
