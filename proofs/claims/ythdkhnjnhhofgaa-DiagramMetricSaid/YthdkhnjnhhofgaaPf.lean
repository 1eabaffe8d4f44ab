/- Walks: the least cost, whole. -/
import Derived.Test.YthdkhnjnhhofgaaPA
import Derived.Test.YthdkhnjnhhofgaaEB
set_option linter.unusedSimpArgs false
set_option linter.unusedVariables false
set_option maxRecDepth 100000
namespace Go.Proofs.Ythdkhnjnhhofgaa
open Go.Eng Go.RowKit Go.Kuhn

def leastF : List Br → List Br → Int
  | [], b => b.foldl (fun m y => max m y.len) 0
  | x :: a, b => (List.range b.length).foldl (fun m k => min m (max (x.apart (b[k]?.getD x)) (leastF a (b.take k ++ b.drop (k + 1))))) (max x.len (leastF a b))
theorem foldl_len_bd (M : Int) : ∀ (b : List Br) (m : Int), 0 ≤ m → m ≤ M → (∀ y ∈ b, y.len ≤ M) → 0 ≤ b.foldl (fun m y => max m y.len) m ∧ b.foldl (fun m y => max m y.len) m ≤ M
  | [], m, h1, h2, _ => ⟨h1, h2⟩
  | y :: b, m, h1, h2, h => foldl_len_bd M b _ (by show 0 ≤ max m y.len; omega) (by have := h y (by simp); show max m y.len ≤ M; omega) fun z hz => h z (by simp [hz])
theorem foldl_min_bd {β : Type} (f : β → Int) (M : Int) : ∀ (b : List β) (m : Int), 0 ≤ m → m ≤ M → (∀ y ∈ b, 0 ≤ f y) → 0 ≤ b.foldl (fun m y => min m (f y)) m ∧ b.foldl (fun m y => min m (f y)) m ≤ M
  | [], m, h1, h2, _ => ⟨h1, h2⟩
  | y :: b, m, h1, h2, h => foldl_min_bd f M b _ (by have := h y (by simp); show 0 ≤ min m (f y); omega) (by show min m (f y) ≤ M; omega) fun z hz => h z (by simp [hz])
theorem leastF_bd (M : Int) (hM : 0 ≤ M) : ∀ (a b : List Br), (∀ x ∈ a, x.len ≤ M) → (∀ y ∈ b, y.len ≤ M) → 0 ≤ leastF a b ∧ leastF a b ≤ M
  | [], b, _, h => foldl_len_bd M b 0 (by omega) hM h
  | x :: a, b, h1, h2 => by
    have ih := leastF_bd M hM a b (fun y hy => h1 y (by simp [hy])) h2
    unfold leastF
    refine foldl_min_bd _ M _ _ (by omega) (by have := h1 x (by simp); omega) fun k hk => ?_
    have := leastF_bd M hM a (b.take k ++ b.drop (k + 1)) (fun y hy => h1 y (by simp [hy])) fun y hy => by
      rcases List.mem_append.1 hy with hy | hy
      · exact h2 y (List.mem_of_mem_take hy)
      · exact h2 y (List.mem_of_mem_drop hy)
    omega

/-- Small numbers. -/
structure Sm (b : Br) : Prop where
  b1 : 0 ≤ b.birth
  b2 : b.birth ≤ 1000
  d1 : 0 ≤ b.death
  d2 : b.death ≤ 1000
theorem Sm.len {b : Br} (h : Sm b) : b.len ≤ 1000 := by have := h.b1; have := h.d2; unfold Br.len; omega
theorem apart_four (x y : Br) : 2 * max (max (max (x.birth - y.birth) (y.birth - x.birth)) (x.death - y.death)) (y.death - x.death) = x.apart y := by unfold Br.apart iabs; omega
theorem own_noneB (g : Nat) : OwnL cBr 6 40 (Blk g 40 []) (.slice (some ⟨g, 0, none⟩) 0 0) ([] : List Br) := ⟨⟨rfl, .inr ⟨g, 0, [], rfl, rfl, rfl, Nat.le_refl _, by omega⟩⟩, cBr_len⟩
theorem foldl_range_succ (f : Int → Nat → Int) (m : Int) (k : Nat) : (List.range (k + 1)).foldl f m = f ((List.range k).foldl f m) k := by
  rw [List.range_succ, List.foldl_append]; rfl
theorem take_foldl (f : Int → Br → Int) (m : Int) (b : List Br) (k : Nat) (hk : k < b.length) : (b.take (k + 1)).foldl f m = f ((b.take k).foldl f m) b[k] := by
  rw [List.take_succ_eq_append_getElem hk, List.foldl_append]; rfl

theorem least_ok : ∀ (a b : List Br) (va vb : Value) (h : Hp) (ms : List Hp), RdL cBr 6 h [] va a → RdL cBr 6 h [] vb b → a.length ≤ 100 → b.length ≤ 100 → (∀ x ∈ a, Sm x) → (∀ x ∈ b, Sm x) →
    FnV Try.prog 15 #[va, vb] h ms (.int .i64 (leastF a b)) := by
  intro a
  induction a with
  | nil =>
    intro b va vb h ms hRa hRb hla hlb hA hB
    refine fun w hw => (?_ : FnV _ _ _ h [] _) w (hw.weaken (Hp.le_refl _) (List.nil_sublist _))
    refine FnT.toV ?_
    refine fn_enter Try.func15 Try.ntmps15 rfl rfl (fun w0 hw0 => ?_)
    simp only [argS]
    refine ws_seq ?_
    refine ws_region ?_
    refine wl_x (ox_assign rfl rfl) rfl rfl rfl ?_
    refine wl_nil ?_
    refine nx_then ?_
    refine ws_seq ?_
    refine ws_seq ?_
    refine ws_region ?_
    refine wl_x (ox_move rfl rfl) rfl rfl rfl ?_
    first | refine wl_x (ox_len (ty := 25) rfl Try.underlying25 rfl) rfl rfl rfl ?_ | refine wl_x (ox_lenR hRa.rd.any rfl Try.underlying25 rfl) rfl rfl rfl ?_ | refine wl_x (ox_lenR hRb.rd.any rfl Try.underlying25 rfl) rfl rfl rfl ?_
    refine wl_x (ox_eqi rfl rfl rfl) rfl rfl rfl ?_
    refine wl_nil ?_
    refine nx_then ?_
    refine ws_if rfl (fun hc => ?_) (fun hc => absurd (by simp) hc)
    · skip
      refine ws_seq ?_
      refine ws_region ?_
      refine wl_x (ox_assign rfl rfl) rfl rfl rfl ?_
      refine wl_nil ?_
      refine nx_then ?_
      refine ws_seq ?_
      refine ws_seq ?_
      refine ws_region ?_
      refine wl_x (ox_assign rfl rfl) rfl rfl rfl ?_
      refine wl_nil ?_
      refine nx_then ?_
      refine ws_block ?_
      refine ws_loop (fun n s h' ms' => ∃ (k : Nat), n = b.length - k ∧ s = [(0, va), (1, vb), (5, .int .i64 ((b.take k).foldl (fun m y => max m y.len) 0)), (6, .int .i64 k)] ∧ h = h' ∧ ms' = [] ∧ k ≤ b.length)
        (b.length - 0) _ ⟨0, rfl, rfl, rfl, rfl, by omega⟩ (by repeat (first | exact trivial | refine ⟨rfl, ?_⟩)) ?_
      rintro n s h' ms' ⟨k, rfl, rfl, rfl, rfl, hk⟩
      refine ws_seq ?_
      refine ws_seq ?_
      refine ws_region ?_
      refine wl_x (ox_move rfl rfl) rfl rfl rfl ?_
      refine wl_x (ox_move rfl rfl) rfl rfl rfl ?_
      first | refine wl_x (ox_len (ty := 25) rfl Try.underlying25 rfl) rfl rfl rfl ?_ | refine wl_x (ox_lenR hRa.rd.any rfl Try.underlying25 rfl) rfl rfl rfl ?_ | refine wl_x (ox_lenR hRb.rd.any rfl Try.underlying25 rfl) rfl rfl rfl ?_
      refine wl_x (ox_lss rfl rfl rfl) rfl rfl rfl ?_
      refine wl_nil ?_
      refine nx_then ?_
      refine ws_if rfl (fun hlt => ?_) (fun hlt => ?_)
      · skip
        have hkb : k < b.length := by omega
        have hst := take_foldl (fun m y => max m y.len) 0 b k hkb
        obtain ⟨b1, b2, b3, b4⟩ := hB _ (List.getElem_mem hkb)
        refine ws_skip ?_
        refine nx_then ?_
        refine ws_seq ?_
        refine ws_block ?_
        refine ws_drawP 11 [true] fol (by kernel_rfl) (by kernel_rfl) (by kernel_rfl) ?_
        refine pz_x rfl rfl rfl rfl (px_move rfl rfl) ?_
        refine ⟨rfl, ?_⟩
        simp only [zapL, zap, List.cons_append, List.nil_append, List.take_succ_cons, List.take_zero, List.drop_succ_cons, List.drop_zero, List.take_nil, List.drop_nil]
        refine wr_z rfl rfl rfl ?_
        refine wr_x (ox_move rfl rfl) rfl rfl ?_
        refine wr_x (ox_move rfl rfl) rfl rfl ?_
        first | refine wr_x (ox_index _ rfl Try.underlying25 el40 rfl rfl rfl (by omega)) rfl rfl ?_ | refine wr_x (ox_indexR _ hRa.rd.any rfl Try.underlying25 el40 rfl rfl rfl (by omega)) rfl rfl ?_ | refine wr_x (ox_indexR _ hRb.rd.any rfl Try.underlying25 el40 rfl rfl rfl (by omega)) rfl rfl ?_
        refine wr_x (ox_fieldF fd40_2 rfl rfl) rfl rfl ?_
        refine wr_x (ox_load rfl Try.underlying3 rfl rfl (by first | exact hRb.any.cell hkb rfl)) rfl rfl ?_
        refine wr_x (ox_move rfl rfl) rfl rfl ?_
        refine wr_x (ox_move rfl rfl) rfl rfl ?_
        first | refine wr_x (ox_index _ rfl Try.underlying25 el40 rfl rfl rfl (by omega)) rfl rfl ?_ | refine wr_x (ox_indexR _ hRa.rd.any rfl Try.underlying25 el40 rfl rfl rfl (by omega)) rfl rfl ?_ | refine wr_x (ox_indexR _ hRb.rd.any rfl Try.underlying25 el40 rfl rfl rfl (by omega)) rfl rfl ?_
        refine wr_x (ox_fieldF fd40_1 rfl rfl) rfl rfl ?_
        refine wr_x (ox_load rfl Try.underlying3 rfl rfl (by first | exact hRb.any.cell hkb rfl)) rfl rfl ?_
        refine wr_nil ?_
        refine wl_x (ox_sub rfl rfl rfl (by omega)) rfl rfl rfl ?_
        refine wl_x (ox_max rfl rfl rfl) rfl rfl rfl ?_
        refine wl_x (ox_assign rfl rfl) rfl rfl rfl ?_
        refine wl_nil ?_
        refine nx_q0 ?_
        refine nx_block ?_
        refine nx_then ?_
        refine ws_region ?_
        refine wl_x (ox_move rfl rfl) rfl rfl rfl ?_
        refine wl_x (ox_add rfl rfl rfl (by omega)) rfl rfl rfl ?_
        refine wl_x (ox_assign rfl rfl) rfl rfl rfl ?_
        refine wl_nil ?_
        refine nx_round (b.length - (k + 1)) _ (by omega) ⟨k + 1, rfl, by rw [hst], rfl, rfl, by omega⟩ (by repeat (first | exact trivial | refine ⟨rfl, ?_⟩))
      · skip
        refine ws_exit ?_
        refine nx_then_exit ?_
        refine nx_then_exit ?_
        refine nx_block_exit ?_
        refine nx_then ?_
        refine ws_seq ?_
        refine ws_region ?_
        refine wl_x (ox_move rfl rfl) rfl rfl rfl ?_
        refine wl_x (ox_assign rfl rfl) rfl rfl rfl ?_
        refine wl_nil ?_
        refine nx_then ?_
        refine ws_ret ?_
        refine nx_then_ret ?_
        have hkl : b.take k = b := List.take_of_length_le (by omega)
        exact nx_ret1 rfl rfl (by first | (rw [hkl]; done) | (rw [hkl]; rfl))
  | cons x a ih =>
    intro b va vb h ms hRa hRb hla hlb hA hB
    refine fun w hw => (?_ : FnV _ _ _ h [] _) w (hw.weaken (Hp.le_refl _) (List.nil_sublist _))
    refine FnT.toV ?_
    have hal : a.length ≤ 100 := by simp at hla; omega
    have hxS : Sm x := hA x (by simp)
    have hA' : ∀ y ∈ a, Sm y := fun y hy => hA y (by simp [hy])
    have hRt : ∀ {h' : Hp}, RdL cBr 6 h' [] va (x :: a) → RdL cBr 6 h' [] (vsub 6 va 1 (x :: a).length) a := fun R => by
      have := R.sub_ (i := 1) (j := (x :: a).length) (by simp) (Nat.le_refl _)
      simpa using this
    have hx0 : 0 < (x :: a).length := by simp
    have hbd := fun c hc => leastF_bd 1000 (by omega) a c (fun y hy => (hA' y hy).len) hc
    refine fn_enter Try.func15 Try.ntmps15 rfl rfl (fun w0 hw0 => ?_)
    simp only [argS]
    refine ws_seq ?_
    refine ws_region ?_
    refine wl_x (ox_assign rfl rfl) rfl rfl rfl ?_
    refine wl_nil ?_
    refine nx_then ?_
    refine ws_seq ?_
    refine ws_seq ?_
    refine ws_region ?_
    refine wl_x (ox_move rfl rfl) rfl rfl rfl ?_
    first | refine wl_x (ox_len (ty := 25) rfl Try.underlying25 rfl) rfl rfl rfl ?_ | refine wl_x (ox_lenR hRa.rd.any rfl Try.underlying25 rfl) rfl rfl rfl ?_ | refine wl_x (ox_lenR hRb.rd.any rfl Try.underlying25 rfl) rfl rfl rfl ?_
    refine wl_x (ox_eqi rfl rfl rfl) rfl rfl rfl ?_
    refine wl_nil ?_
    refine nx_then ?_
    refine ws_if rfl (fun hc => absurd hc (by simp; omega)) (fun hc => ?_)
    obtain ⟨x1, x2, x3, x4⟩ := hxS
    have cx1 : Cell h [] (((vbase va).add (0 * 6)).add 1) (.int .i64 x.birth) := hRa.cell hx0 (f := 1) rfl
    have cx2 : Cell h [] (((vbase va).add (0 * 6)).add 2) (.int .i64 x.death) := hRa.cell hx0 (f := 2) rfl
    refine ws_skip ?_
    refine nx_then ?_
    refine ws_seq ?_
    refine ws_draw 13 fol (by kernel_rfl) rfl ?_
    simp only [List.take_succ_cons, List.take_zero, List.drop_succ_cons, List.drop_zero, List.take_nil, List.drop_nil]
    refine wr_x (ox_move rfl rfl) rfl rfl ?_
    first | refine wr_x (ox_index 0 rfl Try.underlying25 el40 rfl rfl rfl (by omega)) rfl rfl ?_ | refine wr_x (ox_indexR 0 hRa.rd.any rfl Try.underlying25 el40 rfl rfl rfl (by omega)) rfl rfl ?_ | refine wr_x (ox_indexR 0 hRb.rd.any rfl Try.underlying25 el40 rfl rfl rfl (by omega)) rfl rfl ?_
    refine wr_x (ox_fieldF fd40_2 rfl rfl) rfl rfl ?_
    refine wr_x (ox_load rfl Try.underlying3 rfl rfl (by first | exact cx1.any | exact cx2.any)) rfl rfl ?_
    refine wr_x (ox_move rfl rfl) rfl rfl ?_
    first | refine wr_x (ox_index 0 rfl Try.underlying25 el40 rfl rfl rfl (by omega)) rfl rfl ?_ | refine wr_x (ox_indexR 0 hRa.rd.any rfl Try.underlying25 el40 rfl rfl rfl (by omega)) rfl rfl ?_ | refine wr_x (ox_indexR 0 hRb.rd.any rfl Try.underlying25 el40 rfl rfl rfl (by omega)) rfl rfl ?_
    refine wr_x (ox_fieldF fd40_1 rfl rfl) rfl rfl ?_
    refine wr_x (ox_load rfl Try.underlying3 rfl rfl (by first | exact cx1.any | exact cx2.any)) rfl rfl ?_
    refine wr_x (ox_sub rfl rfl rfl (by omega)) rfl rfl ?_
    refine wr_x (ox_move rfl rfl) rfl rfl ?_
    first | refine wr_x (ox_sliceR_l 1 hRa.rd.any rfl Try.underlying25 el40 rfl rfl rfl (by omega)) rfl rfl ?_ | refine wr_x (ox_sliceR_l 1 hRb.rd.any rfl Try.underlying25 el40 rfl rfl rfl (by omega)) rfl rfl ?_
    refine wr_x (ox_move rfl rfl) rfl rfl ?_
    refine wr_x (ox_call rfl Try.call15 rfl (ih b _ vb h _ (hRt hRa) hRb hal hlb hA' hB)) rfl rfl ?_
    refine wr_nil ?_
    refine wl_x (ox_max rfl rfl rfl) rfl rfl rfl ?_
    refine wl_x (ox_assign rfl rfl) rfl rfl rfl ?_
    refine wl_nil ?_
    refine nx_then ?_
    refine ws_seq ?_
    refine ws_seq ?_
    refine ws_region ?_
    refine wl_x (ox_assign rfl rfl) rfl rfl rfl ?_
    refine wl_nil ?_
    refine nx_then ?_
    refine ws_block ?_
    refine ws_loop (fun n s h' ms' => ∃ (k : Nat) (m : Int), n = b.length - k ∧ s = [(0, va), (1, vb), (7, .int .i64 m), (8, .int .i64 k)] ∧ h.le h' ∧ ms' = [] ∧ k ≤ b.length ∧ m = (List.range k).foldl (fun m k => min m (max (x.apart (b[k]?.getD x)) (leastF a (b.take k ++ b.drop (k + 1))))) (max x.len (leastF a b)))
      (b.length - 0) _ ⟨0, _, rfl, rfl, Hp.le_refl _, rfl, by omega, rfl⟩ (by repeat (first | exact trivial | refine ⟨rfl, ?_⟩)) ?_
    rintro n s h' ms' ⟨k, m, rfl, rfl, hle, rfl, hk, hm⟩
    have hRa := hRa.up hle
    have hRb := hRb.up hle
    refine ws_seq ?_
    refine ws_seq ?_
    refine ws_region ?_
    refine wl_x (ox_move rfl rfl) rfl rfl rfl ?_
    refine wl_x (ox_move rfl rfl) rfl rfl rfl ?_
    first | refine wl_x (ox_len (ty := 25) rfl Try.underlying25 rfl) rfl rfl rfl ?_ | refine wl_x (ox_lenR hRa.rd.any rfl Try.underlying25 rfl) rfl rfl rfl ?_ | refine wl_x (ox_lenR hRb.rd.any rfl Try.underlying25 rfl) rfl rfl rfl ?_
    refine wl_x (ox_lss rfl rfl rfl) rfl rfl rfl ?_
    refine wl_nil ?_
    refine nx_then ?_
    refine ws_if rfl (fun hlt => ?_) (fun hlt => ?_)
    · skip
      have hkb : k < b.length := by omega
      obtain ⟨b1, b2, b3, b4⟩ := hB _ (List.getElem_mem hkb)
      refine ws_skip ?_
      refine nx_then ?_
      refine ws_seq ?_
      refine ws_block ?_
      refine ws_seq ?_
      refine ws_drawP 0 [false, true, true, true, false, true, true, true, true] fol (by kernel_rfl) (by kernel_rfl) (by kernel_rfl) ?_
      refine pz_x rfl rfl rfl rfl (px_move rfl rfl) ?_
      refine pz_x rfl rfl rfl rfl (px_move rfl rfl) ?_
      first | refine pz_x rfl rfl rfl rfl (px_sliceR_h (ms := []) _ hRa.rd.any rfl Try.underlying25 el40 rfl rfl rfl (by omega)) ?_ | refine pz_x rfl rfl rfl rfl (px_sliceR_h (ms := []) _ hRb.rd.any rfl Try.underlying25 el40 rfl rfl rfl (by omega)) ?_
      refine pz_x rfl rfl rfl rfl (px_move rfl rfl) ?_
      refine pz_x rfl rfl rfl rfl (px_move rfl rfl) ?_
      refine pz_x rfl rfl rfl rfl (px_add rfl rfl rfl (by omega)) ?_
      refine pz_x rfl rfl rfl rfl (px_sliceR_l (ms := []) (k + 1) hRb.rd rfl Try.underlying25 el40 rfl rfl (by omega) (by omega)) ?_
      refine ⟨rfl, ?_⟩
      simp only [zapL, zap, List.cons_append, List.nil_append, List.take_succ_cons, List.take_zero, List.drop_succ_cons, List.drop_zero, List.take_nil, List.drop_nil]
      refine wr_nil ?_
      refine wl_buildSlice [] [] [] rfl Try.underlying25 el40 rfl (by omega) (by first | rfl | kernel_rfl | simp [madeCells]) (by repeat (first | exact trivial | refine ⟨⟨by first | rfl | exact (hRa.rd.any).cells | exact (hRb.rd.any).cells | exact Rd.cells ‹_› | exact (RdL.rd ‹_›).cells, rfl, rfl⟩, ?_⟩)) rfl rfl rfl rfl (fun g54 => ?_)
      refine wl_x0 (ox_move rfl rfl) rfl rfl ?_
      refine wl_x0 (ox_move rfl rfl) rfl rfl ?_
      refine wl_x0 (ox_move rfl rfl) rfl rfl ?_
      have hRk : RdL cBr 6 h' [] (vsub 6 vb (k + 1) b.length) (b.drop (k + 1)) := by
        have := hRb.sub_ (i := k + 1) (j := b.length) (by omega) (Nat.le_refl _)
        rwa [List.take_of_length_le (by simp)] at this
      refine wl_appendL 0 (own_noneB g54) (hRb.sub_ (i := 0) (j := k) (by omega) hk).any rfl Try.underlying25 el40 rfl (by omega) rfl rfl rfl cBr_one (by simp; omega) (by simp; omega) rfl rfl rfl (fun v1 m1 hO1 => ?_)
      refine wl_x0 (ox_move rfl rfl) rfl rfl ?_
      refine wl_x0 (ox_move rfl rfl) rfl rfl ?_
      refine wl_x0 (ox_move rfl rfl) rfl rfl ?_
      refine wl_x0 (ox_move rfl rfl) rfl rfl ?_
      refine wl_appendL 0 hO1 hRk.any rfl Try.underlying25 el40 rfl (by omega) rfl rfl rfl cBr_one (by simp; omega) (by simp; omega) rfl rfl rfl (fun v2 m2 hO2 => ?_)
      have e2 : ([] ++ (b.drop 0).take (k - 0)) ++ b.drop (k + 1) = b.take k ++ b.drop (k + 1) := by simp
      rw [e2] at hO2
      refine wl_x (ox_assign rfl rfl) rfl rfl rfl ?_
      refine wl_nil ?_
      refine nx_q0 ?_
      refine nx_then ?_
      refine ws_freezeL hO2 (fun h3 l3 hR2 => ?_)
      have hRa := hRa.up l3
      have hRb := hRb.up l3
      have hBk : ∀ y ∈ b.take k ++ b.drop (k + 1), Sm y := fun y hy => by
        rcases List.mem_append.1 hy with hy | hy
        · exact hB y (List.mem_of_mem_take hy)
        · exact hB y (List.mem_of_mem_drop hy)
      have hlk : (b.take k ++ b.drop (k + 1)).length ≤ 100 := by simp; omega
      have hap := apart_four x b[k]
      have hgk : b[k]?.getD x = b[k] := by rw [List.getElem?_eq_getElem hkb]; rfl
      have cx1 : Cell h3 [] (((vbase va).add (0 * 6)).add 1) (.int .i64 x.birth) := hRa.cell hx0 (f := 1) rfl
      have cx2 : Cell h3 [] (((vbase va).add (0 * 6)).add 2) (.int .i64 x.death) := hRa.cell hx0 (f := 2) rfl
      refine ws_seq ?_
      refine ws_draw 40 fol (by kernel_rfl) rfl ?_
      simp only [List.take_succ_cons, List.take_zero, List.drop_succ_cons, List.drop_zero, List.take_nil, List.drop_nil]
      refine wr_x (ox_move rfl rfl) rfl rfl ?_
      first | refine wr_x (ox_index 0 rfl Try.underlying25 el40 rfl rfl rfl (by omega)) rfl rfl ?_ | refine wr_x (ox_indexR 0 hRa.rd.any rfl Try.underlying25 el40 rfl rfl rfl (by omega)) rfl rfl ?_ | refine wr_x (ox_indexR 0 hRb.rd.any rfl Try.underlying25 el40 rfl rfl rfl (by omega)) rfl rfl ?_
      refine wr_x (ox_fieldF fd40_1 rfl rfl) rfl rfl ?_
      refine wr_x (ox_load rfl Try.underlying3 rfl rfl (by first | exact cx1.any | exact cx2.any | exact hRb.any.cell hkb rfl)) rfl rfl ?_
      refine wr_x (ox_move rfl rfl) rfl rfl ?_
      refine wr_x (ox_move rfl rfl) rfl rfl ?_
      first | refine wr_x (ox_index _ rfl Try.underlying25 el40 rfl rfl rfl (by omega)) rfl rfl ?_ | refine wr_x (ox_indexR _ hRa.rd.any rfl Try.underlying25 el40 rfl rfl rfl (by omega)) rfl rfl ?_ | refine wr_x (ox_indexR _ hRb.rd.any rfl Try.underlying25 el40 rfl rfl rfl (by omega)) rfl rfl ?_
      refine wr_x (ox_fieldF fd40_1 rfl rfl) rfl rfl ?_
      refine wr_x (ox_load rfl Try.underlying3 rfl rfl (by first | exact cx1.any | exact cx2.any | exact hRb.any.cell hkb rfl)) rfl rfl ?_
      refine wr_x (ox_sub rfl rfl rfl (by omega)) rfl rfl ?_
      refine wr_x (ox_move rfl rfl) rfl rfl ?_
      refine wr_x (ox_move rfl rfl) rfl rfl ?_
      first | refine wr_x (ox_index _ rfl Try.underlying25 el40 rfl rfl rfl (by omega)) rfl rfl ?_ | refine wr_x (ox_indexR _ hRa.rd.any rfl Try.underlying25 el40 rfl rfl rfl (by omega)) rfl rfl ?_ | refine wr_x (ox_indexR _ hRb.rd.any rfl Try.underlying25 el40 rfl rfl rfl (by omega)) rfl rfl ?_
      refine wr_x (ox_fieldF fd40_1 rfl rfl) rfl rfl ?_
      refine wr_x (ox_load rfl Try.underlying3 rfl rfl (by first | exact cx1.any | exact cx2.any | exact hRb.any.cell hkb rfl)) rfl rfl ?_
      refine wr_x (ox_move rfl rfl) rfl rfl ?_
      first | refine wr_x (ox_index 0 rfl Try.underlying25 el40 rfl rfl rfl (by omega)) rfl rfl ?_ | refine wr_x (ox_indexR 0 hRa.rd.any rfl Try.underlying25 el40 rfl rfl rfl (by omega)) rfl rfl ?_ | refine wr_x (ox_indexR 0 hRb.rd.any rfl Try.underlying25 el40 rfl rfl rfl (by omega)) rfl rfl ?_
      refine wr_x (ox_fieldF fd40_1 rfl rfl) rfl rfl ?_
      refine wr_x (ox_load rfl Try.underlying3 rfl rfl (by first | exact cx1.any | exact cx2.any | exact hRb.any.cell hkb rfl)) rfl rfl ?_
      refine wr_x (ox_sub rfl rfl rfl (by omega)) rfl rfl ?_
      refine wr_x (ox_move rfl rfl) rfl rfl ?_
      first | refine wr_x (ox_index 0 rfl Try.underlying25 el40 rfl rfl rfl (by omega)) rfl rfl ?_ | refine wr_x (ox_indexR 0 hRa.rd.any rfl Try.underlying25 el40 rfl rfl rfl (by omega)) rfl rfl ?_ | refine wr_x (ox_indexR 0 hRb.rd.any rfl Try.underlying25 el40 rfl rfl rfl (by omega)) rfl rfl ?_
      refine wr_x (ox_fieldF fd40_2 rfl rfl) rfl rfl ?_
      refine wr_x (ox_load rfl Try.underlying3 rfl rfl (by first | exact cx1.any | exact cx2.any | exact hRb.any.cell hkb rfl)) rfl rfl ?_
      refine wr_x (ox_move rfl rfl) rfl rfl ?_
      refine wr_x (ox_move rfl rfl) rfl rfl ?_
      first | refine wr_x (ox_index _ rfl Try.underlying25 el40 rfl rfl rfl (by omega)) rfl rfl ?_ | refine wr_x (ox_indexR _ hRa.rd.any rfl Try.underlying25 el40 rfl rfl rfl (by omega)) rfl rfl ?_ | refine wr_x (ox_indexR _ hRb.rd.any rfl Try.underlying25 el40 rfl rfl rfl (by omega)) rfl rfl ?_
      refine wr_x (ox_fieldF fd40_2 rfl rfl) rfl rfl ?_
      refine wr_x (ox_load rfl Try.underlying3 rfl rfl (by first | exact cx1.any | exact cx2.any | exact hRb.any.cell hkb rfl)) rfl rfl ?_
      refine wr_x (ox_sub rfl rfl rfl (by omega)) rfl rfl ?_
      refine wr_x (ox_move rfl rfl) rfl rfl ?_
      refine wr_x (ox_move rfl rfl) rfl rfl ?_
      first | refine wr_x (ox_index _ rfl Try.underlying25 el40 rfl rfl rfl (by omega)) rfl rfl ?_ | refine wr_x (ox_indexR _ hRa.rd.any rfl Try.underlying25 el40 rfl rfl rfl (by omega)) rfl rfl ?_ | refine wr_x (ox_indexR _ hRb.rd.any rfl Try.underlying25 el40 rfl rfl rfl (by omega)) rfl rfl ?_
      refine wr_x (ox_fieldF fd40_2 rfl rfl) rfl rfl ?_
      refine wr_x (ox_load rfl Try.underlying3 rfl rfl (by first | exact cx1.any | exact cx2.any | exact hRb.any.cell hkb rfl)) rfl rfl ?_
      refine wr_x (ox_move rfl rfl) rfl rfl ?_
      first | refine wr_x (ox_index 0 rfl Try.underlying25 el40 rfl rfl rfl (by omega)) rfl rfl ?_ | refine wr_x (ox_indexR 0 hRa.rd.any rfl Try.underlying25 el40 rfl rfl rfl (by omega)) rfl rfl ?_ | refine wr_x (ox_indexR 0 hRb.rd.any rfl Try.underlying25 el40 rfl rfl rfl (by omega)) rfl rfl ?_
      refine wr_x (ox_fieldF fd40_2 rfl rfl) rfl rfl ?_
      refine wr_x (ox_load rfl Try.underlying3 rfl rfl (by first | exact cx1.any | exact cx2.any | exact hRb.any.cell hkb rfl)) rfl rfl ?_
      refine wr_x (ox_sub rfl rfl rfl (by omega)) rfl rfl ?_
      refine wr_nil ?_
      refine wl_x (ox_max4 rfl rfl rfl rfl rfl) rfl rfl rfl ?_
      refine wl_x (ox_assign rfl rfl) rfl rfl rfl ?_
      refine wl_nil ?_
      refine nx_then ?_
      refine ws_region ?_
      refine wl_x (ox_move rfl rfl) rfl rfl rfl ?_
      refine wl_x (ox_move rfl rfl) rfl rfl rfl ?_
      refine wl_x (ox_mul rfl rfl rfl (by omega)) rfl rfl rfl ?_
      refine wl_x (ox_move rfl rfl) rfl rfl rfl ?_
      first | refine wl_x (ox_sliceR_l 1 hRa.rd.any rfl Try.underlying25 el40 rfl rfl rfl (by omega)) rfl rfl rfl ?_ | refine wl_x (ox_sliceR_l 1 hRb.rd.any rfl Try.underlying25 el40 rfl rfl rfl (by omega)) rfl rfl rfl ?_
      refine wl_x (ox_move rfl rfl) rfl rfl rfl ?_
      refine wl_x (ox_call rfl Try.call15 rfl (ih _ _ v2 h3 _ (hRt hRa) hR2 hal hlk hA' hBk)) rfl rfl rfl ?_
      refine wl_x (ox_max rfl rfl rfl) rfl rfl rfl ?_
      refine wl_x (ox_min rfl rfl rfl) rfl rfl rfl ?_
      refine wl_x (ox_assign rfl rfl) rfl rfl rfl ?_
      refine wl_nil ?_
      refine nx_block ?_
      refine nx_then ?_
      refine ws_region ?_
      refine wl_x (ox_move rfl rfl) rfl rfl rfl ?_
      refine wl_x (ox_add rfl rfl rfl (by omega)) rfl rfl rfl ?_
      refine wl_x (ox_assign rfl rfl) rfl rfl rfl ?_
      refine wl_nil ?_
      refine nx_round (b.length - (k + 1)) _ (by omega) ⟨k + 1, _, rfl, rfl, Hp.le_trans hle l3, rfl, by omega, by rw [foldl_range_succ, ← hm, hgk, ← hap]⟩ (by repeat (first | exact trivial | refine ⟨rfl, ?_⟩))
    · skip
      have hkb : k = b.length := by omega
      rw [hkb] at hm
      refine ws_exit ?_
      refine nx_then_exit ?_
      refine nx_then_exit ?_
      refine nx_block_exit ?_
      refine nx_then ?_
      refine ws_seq ?_
      refine ws_region ?_
      refine wl_x (ox_move rfl rfl) rfl rfl rfl ?_
      refine wl_x (ox_assign rfl rfl) rfl rfl rfl ?_
      refine wl_nil ?_
      refine nx_then ?_
      refine ws_ret ?_
      exact nx_ret1 rfl rfl (by rw [hm]; rfl)
end Go.Proofs.Ythdkhnjnhhofgaa
