/- The law on lists that are moved as a whole. -/
import Derived.Test.YthdkhnjnhhofgaaPc
set_option linter.unusedSimpArgs false
set_option linter.unusedVariables false
set_option maxRecDepth 100000
namespace Go.Proofs.Ythdkhnjnhhofgaa
open Go.Eng Go.RowKit Go.Kuhn

theorem leastOf_le (M : Int) : ∀ (l : List (Int × Int)) (a : Int), l.foldl (fun m p => max m (2 * iabs (p.1 - p.2))) a ≤ M ↔ a ≤ M ∧ ∀ p ∈ l, 2 * iabs (p.1 - p.2) ≤ M
  | [], a => by simp
  | p :: l, a => by
    rw [List.foldl_cons, leastOf_le M l]
    constructor
    · rintro ⟨h1, h2⟩
      have h1 : max a (2 * iabs (p.1 - p.2)) ≤ M := h1
      refine ⟨by omega, fun q hq => ?_⟩
      rcases List.mem_cons.1 hq with rfl | hq
      · omega
      · exact h2 q hq
    · rintro ⟨h1, h2⟩
      have := h2 p (by simp)
      exact ⟨by show max a (2 * iabs (p.1 - p.2)) ≤ M; omega, fun q hq => h2 q (by simp [hq])⟩
theorem leastOf_iff {l : List (Int × Int)} {M : Int} : leastOf l ≤ M ↔ 0 ≤ M ∧ ∀ p ∈ l, 2 * iabs (p.1 - p.2) ≤ M := leastOf_le M l 0

def Br.sh (k : Int) (b : Br) : Br := ⟨b.dim, b.birth + k, b.death + k, b.opn, b.low, b.high⟩
theorem sh_open (k dim : Int) (l : List Br) : (l.map (Br.sh k)).filter (Br.openIn dim) = (l.filter (Br.openIn dim)).map (Br.sh k) := by
  rw [List.filter_map]; rfl
theorem sh_fin (k dim : Int) (l : List Br) : (l.map (Br.sh k)).filter (Br.finIn dim) = (l.filter (Br.finIn dim)).map (Br.sh k) := by
  rw [List.filter_map]
  refine congrArg (List.map (Br.sh k)) (List.filter_congr fun b _ => ?_)
  have e : (b.sh k).cnt = b.cnt := by
    unfold Br.cnt Br.sh
    congr 1
    exact decide_eq_decide.2 (by simp only; omega)
  show Br.finIn dim (b.sh k) = _
  unfold Br.finIn
  rw [e]; rfl
theorem sh_births (k dim : Int) (l : List Br) : birthsOf dim (l.map (Br.sh k)) = (birthsOf dim l).map (· + k) := by
  unfold birthsOf
  rw [sh_open]
  refine isort_of ?_ ?_
  · rw [List.map_map]
    have := ((isort_perm ((l.filter (Br.openIn dim)).map Br.birth)).symm.map (· + k))
    rw [List.map_map] at this
    exact this
  · exact List.pairwise_map.2 ((isort_sorted _).imp fun h => by omega)
theorem zip_sh (k : Int) : ∀ X : List Int, ∀ p ∈ X.zip (X.map (· + k)), iabs (p.1 - p.2) = iabs k
  | [], p, h => by simp at h
  | x :: X, p, h => by
    rw [List.map_cons, List.zip_cons_cons] at h
    rcases List.mem_cons.1 h with rfl | h
    · show iabs (x - (x + k)) = iabs k
      unfold iabs; omega
    · exact zip_sh k X p h
theorem sh_dist (k dim : Int) (l : List Br) : (dist2 dim l (l.map (Br.sh k))).2 = true ∧ (dist2 dim l (l.map (Br.sh k))).1 ≤ 2 * iabs k ∧ (birthsOf dim l ≠ [] → (dist2 dim l (l.map (Br.sh k))).1 = 2 * iabs k) := by
  have h0 : 0 ≤ iabs k := by unfold iabs; omega
  unfold dist2
  rw [sh_births, if_pos (by simp), sh_fin]
  have hL : leastOf ((birthsOf dim l).zip ((birthsOf dim l).map (· + k))) ≤ 2 * iabs k := leastOf_iff.2 ⟨by omega, fun p hp => by rw [zip_sh k _ p hp]; omega⟩
  have hI : ∀ p : List Br, Inj p (p.map (Br.sh k)) (2 * iabs k) ∧ Inj (p.map (Br.sh k)) p (2 * iabs k) := fun p => by
    have ha : ∀ b : Br, b.apart (b.sh k) = 2 * iabs k := fun b => by unfold Br.apart Br.sh iabs; simp only; omega
    constructor
    · exact ⟨id, fun x hx _ => ⟨by simpa using hx, by simp [ha]⟩, fun x y _ _ _ _ e => e⟩
    · exact ⟨id, fun x hx _ => ⟨by simpa using hx, by rw [apart_comm]; simp [ha]⟩, fun x y _ _ _ _ e => e⟩
  have hd : dd (l.filter (Br.finIn dim)) ((l.filter (Br.finIn dim)).map (Br.sh k)) (leastOf ((birthsOf dim l).zip ((birthsOf dim l).map (· + k)))) ≤ 2 * iabs k :=
    dd_le hL (pos_inj.2 (hI _))
  refine ⟨rfl, hd, fun hne => ?_⟩
  have h1 := dd_lo (l.filter (Br.finIn dim)) ((l.filter (Br.finIn dim)).map (Br.sh k)) (leastOf ((birthsOf dim l).zip ((birthsOf dim l).map (· + k))))
  have h2 : 2 * iabs k ≤ leastOf ((birthsOf dim l).zip ((birthsOf dim l).map (· + k))) := by
    obtain ⟨x, X, e⟩ := List.exists_cons_of_ne_nil hne
    have := (leastOf_iff.1 (Int.le_refl (leastOf ((birthsOf dim l).zip ((birthsOf dim l).map (· + k)))))).2 (x, x + k) (by rw [e]; simp)
    have e2 : iabs (x - (x + k)) = iabs k := by unfold iabs; omega
    simp only at this
    rw [e2] at this; exact this
  show dd _ _ _ = _
  omega
/-- Is there an open bar of a dimension? -/
def hasO (l : List Br) (d : Nat) : Bool := l.any fun b => b.opn && decide (b.dim = d)
theorem hasO_snoc (l : List Br) (b : Br) (d : Nat) : hasO (l ++ [b]) d = (hasO l d || (b.opn && decide (b.dim = d))) := by simp [hasO]
theorem hasO_births {l : List Br} {d : Nat} : hasO l d = true → birthsOf d l ≠ [] := by
  intro h
  obtain ⟨b, hb, h⟩ := List.any_eq_true.1 h
  simp at h
  intro e
  have : b.birth ∈ birthsOf d l := (isort_perm _).mem_iff.2 (List.mem_map.2 ⟨b, List.mem_filter.2 ⟨hb, by simp [Br.openIn, h.1, h.2]⟩, rfl⟩)
  rw [e] at this; simp at this

def hL (l : List Br) : List Value := [.bool (hasO l 0), .bool (hasO l 1), .bool (hasO l 2)]
theorem hL_get (l : List Br) {j : Nat} (hj : j < 3) : (hL l)[j]? = some (.bool (hasO l j)) := by
  rcases (by omega : j = 0 ∨ j = 1 ∨ j = 2) with rfl | rfl | rfl <;> rfl
theorem hL_set (l : List Br) (b : Br) {j : Nat} (hj : j < 3) (hb : b.dim = j) {x : Bool} (hx : x = (hasO l j || b.opn)) : (hL l).set j (.bool x) = hL (l ++ [b]) := by
  subst hx
  unfold hL
  rcases (by omega : j = 0 ∨ j = 1 ∨ j = 2) with rfl | rfl | rfl <;> simp [hasO_snoc, hb]
theorem cell_at {h : Hp} {ms : List Hp} {g : Nat} {el : TypeId} {l : List Value} (i : Nat) {k : Nat} {v : Value} (hm : ms[i]? = some (Blk g el l)) (hv : l[k]? = some v) : Cell h ms ((⟨g, 0, none⟩ : Addr).add (k * 1)) v := by
  rw [Nat.mul_one]; exact Cell.blk i hm hv

theorem shifted_ok (l : List Tri) (k : Int) (vl : Value) (h : Hp) (hl : RdL cT 3 h [] vl l) (hL' : ∀ t ∈ l, TOk t) (hk : -32768 ≤ k ∧ k ≤ 32767) :
    FnT Try.prog 5 #[vl, .int .i16 k] h [] (fun r _ _ => r = .bool true) := by
  refine fn_enter Try.func5 Try.ntmps5 rfl rfl (fun w0 hw0 => ?_)
  simp only [argS]
  refine ws_seq ?_
  refine ws_region ?_
  refine wl_x (ox_assign rfl rfl) rfl rfl rfl ?_
  refine wl_nil ?_
  refine nx_then ?_
  refine ws_seq ?_
  refine ws_region ?_
  refine wl_x (ox_call rfl Try.call9 rfl (sanity_ok _ _)) rfl rfl rfl ?_
  refine wl_x (ox_assign rfl rfl) rfl rfl rfl ?_
  refine wl_nil ?_
  refine nx_then ?_
  refine ws_seq ?_
  refine ws_region ?_
  refine wl_x (ox_move rfl rfl) rfl rfl rfl ?_
  refine wl_call rfl Try.call10 rfl (made_ok l vl h hl hL') rfl rfl rfl (fun va h1 _ l1 hF => ?_)
  obtain ⟨rfl, hRa⟩ := hF
  obtain ⟨la, ba⟩ := made_bd l
  generalize made l = a at *
  refine wl_x (ox_assign rfl rfl) rfl rfl rfl ?_
  refine wl_nil ?_
  refine nx_then ?_
  refine ws_seq ?_
  refine ws_region ?_
  refine wl_x (ox_move rfl rfl) rfl rfl rfl ?_
  refine wl_x (ox_conv rfl Try.underlying37 Try.underlying3 rfl (wrap_i64 (by omega))) rfl rfl rfl ?_
  refine wl_x (ox_assign rfl rfl) rfl rfl rfl ?_
  refine wl_nil ?_
  refine nx_then ?_
  refine ws_seq ?_
  refine ws_region ?_
  refine wl_x (ox_assign rfl rfl) rfl rfl rfl ?_
  refine wl_nil ?_
  refine nx_then ?_
  refine ws_seq ?_
  refine ws_region ?_
  refine wl_alloc [.bool false, .bool false, .bool false] rfl el38 rfl rfl rfl rfl (fun g9 => ?_)
  refine wl_nil ?_
  refine nx_then ?_
  refine ws_seq ?_
  refine ws_seq ?_
  refine ws_region ?_
  refine wl_x (ox_assign rfl rfl) rfl rfl rfl ?_
  refine wl_nil ?_
  refine nx_then ?_
  refine ws_block ?_
  refine ws_emp ?_
  refine ws_loop (fun n s h' ms' => ∃ (i : Nat) (v : Value) (m : Hp), n = a.length - i ∧ s = [(5, .bool true), (6, va), (7, .int .i64 k), (8, v), (9, .pointer (some ⟨g9, 0, none⟩)), (10, .int .i64 i)] ∧ h1 = h' ∧ ms' = [m, Blk g9 38 (hL (a.take i))] ∧ i ≤ a.length ∧ OwnL cBr 6 40 m v ((a.take i).map (Br.sh k)))
    (a.length - 0) _ ⟨0, _, _, rfl, rfl, rfl, rfl, by omega, OwnL.nil cBr_len⟩ (by repeat (first | exact trivial | refine ⟨rfl, ?_⟩)) ?_
  rintro n s h' ms' ⟨i, v, m, rfl, rfl, rfl, rfl, hi, hO⟩
  refine ws_seq ?_
  refine ws_seq ?_
  refine ws_region ?_
  refine wl_x (ox_move rfl rfl) rfl rfl rfl ?_
  refine wl_x (ox_move rfl rfl) rfl rfl rfl ?_
  first | refine wl_x (ox_len (ty := 25) rfl Try.underlying25 rfl) rfl rfl rfl ?_ | refine wl_x (ox_lenR hRa.rd.any rfl Try.underlying25 rfl) rfl rfl rfl ?_
  refine wl_x (ox_lss rfl rfl rfl) rfl rfl rfl ?_
  refine wl_nil ?_
  refine nx_then ?_
  refine ws_if rfl (fun hlt => ?_) (fun hlt => ?_)
  · skip
    have hia : i < a.length := by omega
    have hta := take_succ_map (Br.sh k) a i hia
    have hts : a.take (i + 1) = a.take i ++ [a[i]] := List.take_succ_eq_append_getElem hia
    obtain ⟨x1, x2, x3, x4, x5, x6⟩ := ba _ (List.getElem_mem hia)
    have hml : ((a.take i).map (Br.sh k)).length ≤ 14 := by simp; omega
    obtain ⟨j, hjd⟩ : ∃ j : Nat, a[i].dim = j := ⟨a[i].dim.toNat, by omega⟩
    have hj : j < 3 := by omega
    refine ws_skip ?_
    refine nx_then ?_
    refine ws_seq ?_
    refine ws_block ?_
    refine ws_seq ?_
    refine ws_region ?_
    refine wl_x (ox_move rfl rfl) rfl rfl rfl ?_
    refine wl_x (ox_move rfl rfl) rfl rfl rfl ?_
    first | refine wl_x (ox_index _ rfl Try.underlying25 el40 rfl rfl rfl (by omega)) rfl rfl rfl ?_ | refine wl_x (ox_indexR _ hRa.rd.any rfl Try.underlying25 el40 rfl rfl rfl (by omega)) rfl rfl rfl ?_
    refine wl_x (ox_loadG rfl Try.underlying40 rfl el40 rfl rfl (by first | exact hRa.any.seg hia)) rfl rfl rfl ?_
    refine wl_alloc [.int .i64 0, .int .i64 0, .int .i64 0, .bool false, .int .i64 0, .int .i64 0] rfl el40 rfl rfl rfl rfl (fun g11 => ?_)
    first | refine wl_storeAll 0 [_, _, _, _, _, _] rfl el40 rfl rfl rfl (by first | (simp [Value.oneCell']; done) | (simp [(hRa.rd.any).one]; done) | simp [Value.oneCell', (hRa.rd.any).one]) rfl rfl rfl rfl rfl ?_ | refine wl_storeAll 1 [_, _, _, _, _, _] rfl el40 rfl rfl rfl (by first | (simp [Value.oneCell']; done) | (simp [(hRa.rd.any).one]; done) | simp [Value.oneCell', (hRa.rd.any).one]) rfl rfl rfl rfl rfl ?_ | refine wl_storeAll 2 [_, _, _, _, _, _] rfl el40 rfl rfl rfl (by first | (simp [Value.oneCell']; done) | (simp [(hRa.rd.any).one]; done) | simp [Value.oneCell', (hRa.rd.any).one]) rfl rfl rfl rfl rfl ?_ | refine wl_storeAll 3 [_, _, _, _, _, _] rfl el40 rfl rfl rfl (by first | (simp [Value.oneCell']; done) | (simp [(hRa.rd.any).one]; done) | simp [Value.oneCell', (hRa.rd.any).one]) rfl rfl rfl rfl rfl ?_ | refine wl_storeAll 4 [_, _, _, _, _, _] rfl el40 rfl rfl rfl (by first | (simp [Value.oneCell']; done) | (simp [(hRa.rd.any).one]; done) | simp [Value.oneCell', (hRa.rd.any).one]) rfl rfl rfl rfl rfl ?_
    refine wl_nil ?_
    refine nx_then ?_
    refine ws_seq ?_
    refine ws_region ?_
    refine wl_x (ox_fieldF fd40_1 rfl rfl) rfl rfl rfl ?_
    refine wl_x (ox_load rfl Try.underlying3 rfl rfl (by first | exact Cell.blk 0 rfl rfl | exact Cell.blk 1 rfl rfl | exact Cell.blk 2 rfl rfl | exact Cell.blk 3 rfl rfl | exact Cell.blk 4 rfl rfl)) rfl rfl rfl ?_
    refine wl_x (ox_move rfl rfl) rfl rfl rfl ?_
    refine wl_x (ox_add rfl rfl rfl (by omega)) rfl rfl rfl ?_
    refine wl_x (ox_fieldF fd40_1 rfl rfl) rfl rfl rfl ?_
    first | refine wl_storeAt 0 _ rfl el3 rfl rfl (by first | rfl | exact Rd.one ‹_› | exact (RdL.rd ‹_›).one) rfl rfl (by first | decide | (simp; done) | exact of_decide_eq_true rfl | (simp; omega)) rfl rfl ?_ | refine wl_storeAt 1 _ rfl el3 rfl rfl (by first | rfl | exact Rd.one ‹_› | exact (RdL.rd ‹_›).one) rfl rfl (by first | decide | (simp; done) | exact of_decide_eq_true rfl | (simp; omega)) rfl rfl ?_ | refine wl_storeAt 2 _ rfl el3 rfl rfl (by first | rfl | exact Rd.one ‹_› | exact (RdL.rd ‹_›).one) rfl rfl (by first | decide | (simp; done) | exact of_decide_eq_true rfl | (simp; omega)) rfl rfl ?_ | refine wl_storeAt 3 _ rfl el3 rfl rfl (by first | rfl | exact Rd.one ‹_› | exact (RdL.rd ‹_›).one) rfl rfl (by first | decide | (simp; done) | exact of_decide_eq_true rfl | (simp; omega)) rfl rfl ?_ | refine wl_storeAt 4 _ rfl el3 rfl rfl (by first | rfl | exact Rd.one ‹_› | exact (RdL.rd ‹_›).one) rfl rfl (by first | decide | (simp; done) | exact of_decide_eq_true rfl | (simp; omega)) rfl rfl ?_
    refine wl_nil ?_
    refine nx_then ?_
    refine ws_seq ?_
    refine ws_region ?_
    refine wl_x (ox_fieldF fd40_2 rfl rfl) rfl rfl rfl ?_
    refine wl_x (ox_load rfl Try.underlying3 rfl rfl (by first | exact Cell.blk 0 rfl rfl | exact Cell.blk 1 rfl rfl | exact Cell.blk 2 rfl rfl | exact Cell.blk 3 rfl rfl | exact Cell.blk 4 rfl rfl)) rfl rfl rfl ?_
    refine wl_x (ox_move rfl rfl) rfl rfl rfl ?_
    refine wl_x (ox_add rfl rfl rfl (by omega)) rfl rfl rfl ?_
    refine wl_x (ox_fieldF fd40_2 rfl rfl) rfl rfl rfl ?_
    first | refine wl_storeAt 0 _ rfl el3 rfl rfl (by first | rfl | exact Rd.one ‹_› | exact (RdL.rd ‹_›).one) rfl rfl (by first | decide | (simp; done) | exact of_decide_eq_true rfl | (simp; omega)) rfl rfl ?_ | refine wl_storeAt 1 _ rfl el3 rfl rfl (by first | rfl | exact Rd.one ‹_› | exact (RdL.rd ‹_›).one) rfl rfl (by first | decide | (simp; done) | exact of_decide_eq_true rfl | (simp; omega)) rfl rfl ?_ | refine wl_storeAt 2 _ rfl el3 rfl rfl (by first | rfl | exact Rd.one ‹_› | exact (RdL.rd ‹_›).one) rfl rfl (by first | decide | (simp; done) | exact of_decide_eq_true rfl | (simp; omega)) rfl rfl ?_ | refine wl_storeAt 3 _ rfl el3 rfl rfl (by first | rfl | exact Rd.one ‹_› | exact (RdL.rd ‹_›).one) rfl rfl (by first | decide | (simp; done) | exact of_decide_eq_true rfl | (simp; omega)) rfl rfl ?_ | refine wl_storeAt 4 _ rfl el3 rfl rfl (by first | rfl | exact Rd.one ‹_› | exact (RdL.rd ‹_›).one) rfl rfl (by first | decide | (simp; done) | exact of_decide_eq_true rfl | (simp; omega)) rfl rfl ?_
    refine wl_nil ?_
    refine nx_then ?_
    refine ws_seq ?_
    refine ws_draw 10 fol (by kernel_rfl) rfl ?_
    simp only [List.take_succ_cons, List.take_zero, List.drop_succ_cons, List.drop_zero, List.take_nil, List.drop_nil]
    refine wr_x (ox_fieldF fd40_0 rfl rfl) rfl rfl ?_
    refine wr_x (ox_load rfl Try.underlying3 rfl rfl (by first | exact Cell.blk 0 rfl rfl | exact Cell.blk 1 rfl rfl | exact Cell.blk 2 rfl rfl | exact Cell.blk 3 rfl rfl | exact Cell.blk 4 rfl rfl)) rfl rfl ?_
    refine wr_x (ox_fieldF fd40_0 rfl rfl) rfl rfl ?_
    refine wr_x (ox_load rfl Try.underlying3 rfl rfl (by first | exact Cell.blk 0 rfl rfl | exact Cell.blk 1 rfl rfl | exact Cell.blk 2 rfl rfl | exact Cell.blk 3 rfl rfl | exact Cell.blk 4 rfl rfl)) rfl rfl ?_
    refine wr_x (ox_indexA j rfl Try.underlying38 el4 rfl rfl hjd hj) rfl rfl ?_
    refine wr_x (ox_load rfl Try.underlying4 rfl rfl (cell_at 2 rfl (hL_get _ hj))) rfl rfl ?_
    refine wr_x (ox_move rfl rfl) rfl rfl ?_
    refine wr_splitb (t := 46) rfl (fun hB => ?_) (fun hB => ?_)
    · skip
      refine wr_skip rfl rfl rfl rfl rfl ?_
      refine wr_skip rfl rfl rfl rfl rfl ?_
      refine wr_x (ox_pick_t rfl rfl rfl) rfl rfl ?_
      refine wr_nil ?_
      refine wl_x (ox_indexA j rfl Try.underlying38 el4 rfl rfl hjd hj) rfl rfl rfl ?_
      refine wl_storeAt 2 (j * 1) rfl el4 rfl rfl rfl rfl rfl (by simp [hL]; omega) rfl rfl ?_
      refine wl_nil ?_
      refine nx_then ?_
      refine ws_region ?_
      refine wl_x (ox_move rfl rfl) rfl rfl rfl ?_
      refine wl_x (ox_loadG rfl Try.underlying40 rfl el40 rfl rfl (by first | exact Seg.blk 0 rfl | exact Seg.blk 1 rfl | exact Seg.blk 2 rfl | exact Seg.blk 3 rfl | exact Seg.blk 4 rfl | exact hRa.any.seg hia)) rfl rfl rfl ?_
      refine wl_buildSlice1 [_, _, _, _, _, _] rfl Try.underlying25 el40 rfl (by first | rfl | exact (hRa.rd.any).cells | exact Rd.cells ‹_› | exact (RdL.rd ‹_›).cells) rfl rfl (by omega) rfl rfl rfl (fun g53 => ?_)
      refine wl_appendL 2 hO (RdL.one cBr_len (x := Br.sh k a[i]) (List.Mem.head _) rfl) rfl Try.underlying25 el40 rfl (by omega) rfl rfl rfl cBr_one (by simp; omega) (by simp; omega) rfl rfl rfl (fun v' m' hO' => ?_)
      refine wl_x (ox_assign rfl rfl) rfl rfl rfl ?_
      refine wl_nil ?_
      refine nx_block ?_
      refine nx_then ?_
      refine ws_region ?_
      refine wl_x (ox_move rfl rfl) rfl rfl rfl ?_
      refine wl_x (ox_add rfl rfl rfl (by omega)) rfl rfl rfl ?_
      refine wl_x (ox_assign rfl rfl) rfl rfl rfl ?_
      refine wl_nil ?_
      refine nx_perm (ms' := [Blk g53 40 (cBr (Br.sh k a[i])), Blk g11 40 (cBr (Br.sh k a[i])), m', Blk g9 38 ((hL (a.take i)).set (j * 1) (.bool true))]) (by exact List.Perm.refl _) (nx_drop (nx_drop ?_))
      refine nx_round (a.length - (i + 1)) _ (by omega) ⟨i + 1, v', m', rfl, rfl, rfl, by rw [Nat.mul_one, hL_set _ a[i] hj hjd (by simp [hB]), ← hts], by omega, by rw [hta]; exact hO'⟩ (by repeat (first | exact trivial | refine ⟨rfl, ?_⟩))
    · skip
      refine wr_gx (ox_fieldF fd40_3 rfl rfl) rfl rfl rfl rfl ?_
      refine wr_gx (ox_load rfl Try.underlying4 rfl rfl (by first | exact Cell.blk 0 rfl rfl | exact Cell.blk 1 rfl rfl | exact Cell.blk 2 rfl rfl | exact Cell.blk 3 rfl rfl | exact Cell.blk 4 rfl rfl)) rfl rfl rfl rfl ?_
      refine wr_x (ox_pick_f rfl rfl rfl) rfl rfl ?_
      refine wr_nil ?_
      refine wl_x (ox_indexA j rfl Try.underlying38 el4 rfl rfl hjd hj) rfl rfl rfl ?_
      refine wl_storeAt 2 (j * 1) rfl el4 rfl rfl rfl rfl rfl (by simp [hL]; omega) rfl rfl ?_
      refine wl_nil ?_
      refine nx_then ?_
      refine ws_region ?_
      refine wl_x (ox_move rfl rfl) rfl rfl rfl ?_
      refine wl_x (ox_loadG rfl Try.underlying40 rfl el40 rfl rfl (by first | exact Seg.blk 0 rfl | exact Seg.blk 1 rfl | exact Seg.blk 2 rfl | exact Seg.blk 3 rfl | exact Seg.blk 4 rfl | exact hRa.any.seg hia)) rfl rfl rfl ?_
      refine wl_buildSlice1 [_, _, _, _, _, _] rfl Try.underlying25 el40 rfl (by first | rfl | exact (hRa.rd.any).cells | exact Rd.cells ‹_› | exact (RdL.rd ‹_›).cells) rfl rfl (by omega) rfl rfl rfl (fun g53 => ?_)
      refine wl_appendL 2 hO (RdL.one cBr_len (x := Br.sh k a[i]) (List.Mem.head _) rfl) rfl Try.underlying25 el40 rfl (by omega) rfl rfl rfl cBr_one (by simp; omega) (by simp; omega) rfl rfl rfl (fun v' m' hO' => ?_)
      refine wl_x (ox_assign rfl rfl) rfl rfl rfl ?_
      refine wl_nil ?_
      refine nx_block ?_
      refine nx_then ?_
      refine ws_region ?_
      refine wl_x (ox_move rfl rfl) rfl rfl rfl ?_
      refine wl_x (ox_add rfl rfl rfl (by omega)) rfl rfl rfl ?_
      refine wl_x (ox_assign rfl rfl) rfl rfl rfl ?_
      refine wl_nil ?_
      refine nx_perm (ms' := [Blk g53 40 (cBr (Br.sh k a[i])), Blk g11 40 (cBr (Br.sh k a[i])), m', Blk g9 38 ((hL (a.take i)).set (j * 1) (.bool a[i].opn))]) (by exact List.Perm.refl _) (nx_drop (nx_drop ?_))
      refine nx_round (a.length - (i + 1)) _ (by omega) ⟨i + 1, v', m', rfl, rfl, rfl, by rw [Nat.mul_one, hL_set _ a[i] hj hjd (by simp [hB]), ← hts], by omega, by rw [hta]; exact hO'⟩ (by repeat (first | exact trivial | refine ⟨rfl, ?_⟩))
  · skip
    have hia : i = a.length := by omega
    rw [List.take_of_length_le (by omega)] at hO ⊢
    have hB : ∀ x ∈ a, BOk x := fun x hx => (ba x hx).ok (by omega)
    have hS : ∀ x ∈ a.map (Br.sh k), BOk x := fun x hx => by
      obtain ⟨b, hb, rfl⟩ := List.mem_map.1 hx
      obtain ⟨x1, x2, x3, x4, x5, x6⟩ := ba b hb
      exact ⟨by show _ ≤ b.birth + k; omega, by show b.birth + k ≤ _; omega, by show _ ≤ b.death + k; omega, by show b.death + k ≤ _; omega⟩
    have hsl : (a.map (Br.sh k)).length = a.length := by simp
    refine ws_exit ?_
    refine nx_then_exit ?_
    refine nx_then_exit ?_
    refine nx_block_exit ?_
    refine nx_then ?_
    refine ws_freezeL hO (fun h2 l2 hRs => ?_)
    have hRa := hRa.up l2
    refine ws_seq ?_
    refine ws_seq ?_
    refine ws_region ?_
    refine wl_x (ox_assign rfl rfl) rfl rfl rfl ?_
    refine wl_nil ?_
    refine nx_then ?_
    refine ws_block ?_
    refine ws_loop (fun n s h' ms' => ∃ (d : Nat), n = 3 - d ∧ s = [(5, .bool true), (6, va), (7, .int .i64 k), (8, v), (9, .pointer (some ⟨g9, 0, none⟩)), (12, .int .i64 d)] ∧ h2 = h' ∧ ms' = [Blk g9 38 (hL a)] ∧ d ≤ 3)
      (3 - 0) _ ⟨0, rfl, rfl, rfl, rfl, by omega⟩ (by repeat (first | exact trivial | refine ⟨rfl, ?_⟩)) ?_
    rintro n s h' ms' ⟨d, rfl, rfl, rfl, rfl, hd⟩
    refine ws_seq ?_
    refine ws_seq ?_
    refine ws_region ?_
    refine wl_x (ox_move rfl rfl) rfl rfl rfl ?_
    refine wl_x (ox_lss rfl rfl rfl) rfl rfl rfl ?_
    refine wl_nil ?_
    refine nx_then ?_
    refine ws_if rfl (fun hlt => ?_) (fun hlt => ?_)
    · skip
      have hd3 : d < 3 := by omega
      obtain ⟨s1, s2, s3⟩ := sh_dist k d a
      have s3 := fun h => s3 (hasO_births (d := d) (l := a) h)
      have s4 := (dist2_bd d hB hS).1
      have hik : iabs k = max k (-k) := rfl
      refine ws_skip ?_
      refine nx_then ?_
      refine ws_seq ?_
      refine ws_block ?_
      refine ws_seq ?_
      refine ws_region ?_
      refine wl_x (ox_move rfl rfl) rfl rfl rfl ?_
      refine wl_x (ox_move rfl rfl) rfl rfl rfl ?_
      refine wl_x (ox_move rfl rfl) rfl rfl rfl ?_
      refine wl_x (ox_call rfl Try.call12 rfl (distance_v a (a.map (Br.sh k)) va v d h2 hRa hRs (by omega) (by omega) hB hS _)) rfl rfl rfl ?_
      rw [s1]
      refine wl_x (ox_move rfl rfl) rfl rfl rfl ?_
      refine wl_x (ox_extract rfl rfl rfl) rfl rfl rfl ?_
      refine wl_x (ox_extract rfl rfl rfl) rfl rfl rfl ?_
      refine wl_x (ox_assign rfl rfl) rfl rfl rfl ?_
      refine wl_x (ox_assign rfl rfl) rfl rfl rfl ?_
      refine wl_nil ?_
      refine nx_then ?_
      refine ws_seq ?_
      refine ws_region ?_
      refine wl_x (ox_move rfl rfl) rfl rfl rfl ?_
      refine wl_x (ox_not rfl rfl) rfl rfl rfl ?_
      refine wl_x (ox_move rfl rfl) rfl rfl rfl ?_
      refine wl_splitb (t := 68) rfl (fun hz => ?_) (fun hz => ?_)
      · skip
        cases hz
      · skip
        refine wl_gx (ox_move rfl rfl) rfl rfl rfl rfl rfl rfl ?_
        refine wl_gx (ox_move rfl rfl) rfl rfl rfl rfl rfl rfl ?_
        refine wl_gx (ox_move rfl rfl) rfl rfl rfl rfl rfl rfl ?_
        refine wl_gx (ox_neg rfl rfl (by omega)) rfl rfl rfl rfl rfl rfl ?_
        refine wl_gx (ox_max rfl rfl rfl) rfl rfl rfl rfl rfl rfl ?_
        refine wl_gx (ox_mul rfl rfl rfl (by omega)) rfl rfl rfl rfl rfl rfl ?_
        refine wl_gx (ox_gtr rfl rfl rfl) rfl rfl rfl rfl rfl rfl ?_
        refine wl_x (ox_pick_f rfl rfl rfl) rfl rfl rfl ?_
        refine wl_x (ox_move rfl rfl) rfl rfl rfl ?_
        refine wl_split (t := 77) rfl (fun hs => absurd hs (by omega)) (fun hs => ?_)
        refine wl_gx (ox_move rfl rfl) rfl rfl rfl rfl rfl rfl ?_
        refine wl_gx (ox_indexA _ rfl Try.underlying38 el4 rfl rfl rfl (by omega)) rfl rfl rfl rfl rfl rfl ?_
        refine wl_gx (ox_load rfl Try.underlying4 rfl rfl (cell_at 0 rfl (hL_get _ hd3))) rfl rfl rfl rfl rfl rfl ?_
        refine wl_gx (ox_move rfl rfl) rfl rfl rfl rfl rfl rfl ?_
        refine wl_splitb (t := 81) rfl (fun hh => ?_) (fun hh => ?_)
        · skip
          have s5 := s3 hh
          refine wl_gx (ox_move rfl rfl) rfl rfl rfl rfl rfl rfl ?_
          refine wl_gx (ox_move rfl rfl) rfl rfl rfl rfl rfl rfl ?_
          refine wl_gx (ox_move rfl rfl) rfl rfl rfl rfl rfl rfl ?_
          refine wl_gx (ox_neg rfl rfl (by omega)) rfl rfl rfl rfl rfl rfl ?_
          refine wl_gx (ox_max rfl rfl rfl) rfl rfl rfl rfl rfl rfl ?_
          refine wl_gx (ox_mul rfl rfl rfl (by omega)) rfl rfl rfl rfl rfl rfl ?_
          refine wl_gx (ox_nei rfl rfl rfl) rfl rfl rfl rfl rfl rfl ?_
          refine wl_gx (ox_pick_t rfl rfl rfl) rfl rfl rfl rfl rfl rfl ?_
          refine wl_x (ox_pick_f rfl rfl rfl) rfl rfl rfl ?_
          refine wl_nil ?_
          refine nx_then ?_
          refine ws_if rfl (fun hc => absurd hc (by omega)) (fun hc => ?_)
          refine ws_skip ?_
          refine nx_block ?_
          refine nx_then ?_
          refine ws_region ?_
          refine wl_x (ox_move rfl rfl) rfl rfl rfl ?_
          refine wl_x (ox_add rfl rfl rfl (by omega)) rfl rfl rfl ?_
          refine wl_x (ox_assign rfl rfl) rfl rfl rfl ?_
          refine wl_nil ?_
          refine nx_round (3 - (d + 1)) _ (by omega) ⟨d + 1, rfl, rfl, rfl, rfl, by omega⟩ (by repeat (first | exact trivial | refine ⟨rfl, ?_⟩))
        · skip
          refine wl_skip rfl rfl rfl rfl rfl rfl rfl ?_
          refine wl_skip rfl rfl rfl rfl rfl rfl rfl ?_
          refine wl_skip rfl rfl rfl rfl rfl rfl rfl ?_
          refine wl_skip rfl rfl rfl rfl rfl rfl rfl ?_
          refine wl_skip rfl rfl rfl rfl rfl rfl rfl ?_
          refine wl_skip rfl rfl rfl rfl rfl rfl rfl ?_
          refine wl_skip rfl rfl rfl rfl rfl rfl rfl ?_
          refine wl_gx (ox_pick_f rfl rfl rfl) rfl rfl rfl rfl rfl rfl ?_
          refine wl_x (ox_pick_f rfl rfl rfl) rfl rfl rfl ?_
          refine wl_nil ?_
          refine nx_then ?_
          refine ws_cond_f rfl ?_
          refine ws_skip ?_
          refine nx_block ?_
          refine nx_then ?_
          refine ws_region ?_
          refine wl_x (ox_move rfl rfl) rfl rfl rfl ?_
          refine wl_x (ox_add rfl rfl rfl (by omega)) rfl rfl rfl ?_
          refine wl_x (ox_assign rfl rfl) rfl rfl rfl ?_
          refine wl_nil ?_
          refine nx_round (3 - (d + 1)) _ (by omega) ⟨d + 1, rfl, rfl, rfl, rfl, by omega⟩ (by repeat (first | exact trivial | refine ⟨rfl, ?_⟩))
    · skip
      refine ws_exit ?_
      refine nx_then_exit ?_
      refine nx_then_exit ?_
      refine nx_block_exit ?_
      refine nx_then ?_
      refine ws_seq ?_
      refine ws_region ?_
      refine wl_x (ox_move rfl rfl) rfl rfl rfl ?_
      refine wl_x (ox_assign rfl rfl) rfl rfl rfl ?_
      refine wl_nil ?_
      refine nx_then ?_
      refine ws_ret ?_
      exact nx_ret1 rfl rfl (rfl)
end Go.Proofs.Ythdkhnjnhhofgaa
