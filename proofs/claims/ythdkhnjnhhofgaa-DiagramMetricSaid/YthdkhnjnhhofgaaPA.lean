/- Plain: costs that serve, by matchings of lists. -/
import Derived.Test.YthdkhnjnhhofgaaWC
import Derived.Test.YthdkhnjnhhofgaaEB
set_option linter.unusedSimpArgs false
set_option linter.unusedVariables false
set_option maxRecDepth 100000
namespace Go.Proofs.Ythdkhnjnhhofgaa
open Go.Kuhn

/-- Who is long has a place of his own. -/
def Inj (p q : List Br) (c : Int) : Prop := ∃ pos : Nat → Nat, (∀ x (hx : x < p.length), c < p[x].len → ∃ h : pos x < q.length, p[x].apart (q[pos x]'h) ≤ c) ∧ ∀ x y (hx : x < p.length) (hy : y < p.length), c < p[x].len → c < p[y].len → pos x = pos y → x = y
theorem longB_of {p : List Br} {c : Int} {x : Nat} (hx : x < p.length) (h : c < p[x].len) : longB p c x = true := by
  unfold longB; rw [dif_pos hx]; exact decide_eq_true h
theorem cpos_inj {p q : List Br} {c : Int} : CPos p q c ↔ Inj p q c := by
  constructor
  · intro h
    obtain ⟨pos, h1, h2⟩ := cpos_pos h
    refine ⟨pos, fun x hx hl => ?_, fun x y hx hy h3 h4 e => h2 x y hx (longB_of hx h3) hy (longB_of hy h4) e⟩
    obtain ⟨h3, h4⟩ := h1 x hx (longB_of hx hl)
    obtain ⟨_, i2, i3⟩ := fitsR_lt h4
    exact ⟨i2, i3⟩
  · rintro ⟨pos, h1, h2⟩
    refine (cpos_or_cneg p q c).resolve_right ?_
    rintro ⟨i, part, seen, hi, hl, hpl, hK, hc, L⟩
    refine hall' (G := fitsR p q c) (fun x => x < p.length ∧ longB p c x = true) (fun x => by rw [hc x]; split <;> omega) (by rw [hc i, if_neg (by omega)]) (fun x hx => ?_) L (fun x k => (x < p.length ∧ longB p c x = true) ∧ pos x = k) (fun x hx => ?_) (fun x y k g1 g2 => ?_)
    · rcases hx with rfl | hx
      · exact ⟨hi, hl⟩
      · have := List.count_pos_iff.2 hx
        rw [hc x] at this
        split at this
        · rename_i g; exact ⟨by omega, g.2⟩
        · omega
    · obtain ⟨g1, g2⟩ := longB_lt hx.2
      obtain ⟨g3, g4⟩ := h1 x g1 g2
      refine ⟨pos x, g3, ?_, hx, rfl⟩
      unfold fitsR; rw [dif_pos ⟨g1, g3⟩]; exact decide_eq_true g4
    · obtain ⟨a1, a2⟩ := longB_lt g1.1.2
      obtain ⟨b1, b2⟩ := longB_lt g2.1.2
      exact h2 x y a1 b1 a2 b2 (by rw [g1.2, g2.2])
theorem pos_inj {p q : List Br} {c : Int} : Pos (fitsD p q c) (p.length + q.length) ↔ Inj p q c ∧ Inj q p c := by rw [pos_iff, cpos_inj, cpos_inj]

/-- Where the elements of a list lie in another order. -/
theorem perm_index {α : Type} {l l' : List α} (h : l.Perm l') : ∃ f : Nat → Nat, (∀ i (hi : i < l.length), ∃ h : f i < l'.length, l[i] = l'[f i]'h) ∧ ∀ i j, i < l.length → j < l.length → f i = f j → i = j := by
  induction h with
  | nil => exact ⟨id, fun i hi => by simp at hi, fun i j _ _ e => e⟩
  | cons x h ih =>
    obtain ⟨f, h1, h2⟩ := ih
    refine ⟨fun i => match i with | 0 => 0 | i + 1 => f i + 1, fun i hi => ?_, fun i j hi hj e => ?_⟩
    · cases i with
      | zero => exact ⟨by simp, rfl⟩
      | succ i =>
        obtain ⟨g1, g2⟩ := h1 i (by simpa using hi)
        exact ⟨by simpa using g1, by simpa using g2⟩
    · cases i with
      | zero => cases j with
        | zero => rfl
        | succ j => simp at e
      | succ i => cases j with
        | zero => simp at e
        | succ j => simp at e; have := h2 i j (by simpa using hi) (by simpa using hj) e; omega
  | swap x y l =>
    refine ⟨fun i => match i with | 0 => 1 | 1 => 0 | i + 2 => i + 2, fun i hi => ?_, fun i j hi hj e => ?_⟩
    · match i, hi with
      | 0, _ => exact ⟨by simp, rfl⟩
      | 1, _ => exact ⟨by simp, rfl⟩
      | i + 2, hi => exact ⟨by simpa using hi, rfl⟩
    · match i, j, e with
      | 0, 0, _ => rfl
      | 0, 1, e => simp at e
      | 0, j + 2, e => simp at e
      | 1, 0, e => simp at e
      | 1, 1, _ => rfl
      | 1, j + 2, e => simp at e
      | i + 2, 0, e => simp at e
      | i + 2, 1, e => simp at e
      | i + 2, j + 2, e => simpa using e
  | trans _ _ ih ih' =>
    obtain ⟨f, h1, h2⟩ := ih
    obtain ⟨g, h3, h4⟩ := ih'
    refine ⟨fun i => g (f i), fun i hi => ?_, fun i j hi hj e => ?_⟩
    · obtain ⟨a1, a2⟩ := h1 i hi
      obtain ⟨b1, b2⟩ := h3 (f i) a1
      exact ⟨b1, a2.trans b2⟩
    · exact h2 i j hi hj (h4 (f i) (f j) (h1 i hi).1 (h1 j hj).1 e)

/-- The same numbers. -/
def Br.sim (x y : Br) : Prop := x.birth = y.birth ∧ x.death = y.death
theorem sim_len {x y : Br} (h : x.sim y) : x.len = y.len := by unfold Br.len; rw [h.1, h.2]
theorem sim_apart {x y z t : Br} (h : x.sim y) (h' : z.sim t) : x.apart z = y.apart t := by unfold Br.apart; rw [h.1, h.2, h'.1, h'.2]
/-- Lists of the same bars, in whatever order. -/
def SimL (p p' : List Br) : Prop := ∃ f : Nat → Nat, (∀ i (hi : i < p.length), ∃ h : f i < p'.length, p[i].sim (p'[f i]'h)) ∧ ∀ i j, i < p.length → j < p.length → f i = f j → i = j
theorem SimL.of_map {α : Type} {l l' : List α} {f g : α → Br} (h : l.Perm l') (hfg : ∀ x ∈ l, (f x).sim (g x)) : SimL (l.map f) (l'.map g) := by
  obtain ⟨w, h1, h2⟩ := perm_index h
  refine ⟨w, fun i hi => ?_, fun i j hi hj e => h2 i j (by simpa using hi) (by simpa using hj) e⟩
  have hi' : i < l.length := by simpa using hi
  obtain ⟨g1, g2⟩ := h1 i hi'
  refine ⟨by simpa using g1, ?_⟩
  rw [List.getElem_map, List.getElem_map, ← g2]
  exact hfg _ (List.getElem_mem hi')
/-- Lists of the same bars serve alike. -/
theorem Inj.simR {p q q' : List Br} {c : Int} (h : Inj p q c) (s : SimL q q') : Inj p q' c := by
  obtain ⟨pos, h1, h2⟩ := h
  obtain ⟨f, h3, h4⟩ := s
  refine ⟨fun x => f (pos x), fun x hx hl => ?_, fun x y hx hy hl hl' e => ?_⟩
  · obtain ⟨g1, g2⟩ := h1 x hx hl
    obtain ⟨g3, g4⟩ := h3 _ g1
    exact ⟨g3, by rw [← sim_apart ⟨rfl, rfl⟩ g4]; exact g2⟩
  · exact h2 x y hx hy hl hl' (h4 _ _ (h1 x hx hl).1 (h1 y hy hl').1 e)
theorem Inj.simL {p p' q : List Br} {c : Int} (h : Inj p q c) (s : SimL p' p) : Inj p' q c := by
  obtain ⟨pos, h1, h2⟩ := h
  obtain ⟨f, h3, h4⟩ := s
  refine ⟨fun x => pos (f x), fun x hx hl => ?_, fun x y hx hy hl hl' e => ?_⟩
  · obtain ⟨g3, g4⟩ := h3 x hx
    obtain ⟨g1, g2⟩ := h1 _ g3 (by rw [← sim_len g4]; exact hl)
    exact ⟨g1, by rw [sim_apart g4 ⟨rfl, rfl⟩]; exact g2⟩
  · obtain ⟨a1, a2⟩ := h3 x hx
    obtain ⟨b1, b2⟩ := h3 y hy
    exact h4 x y hx hy (h2 _ _ a1 b1 (by rw [← sim_len a2]; exact hl) (by rw [← sim_len b2]; exact hl') e)

/-- The triangle. -/
theorem len_apart (x y : Br) : x.len ≤ y.len + x.apart y ∧ y.len ≤ x.len + x.apart y := by unfold Br.len Br.apart iabs; omega
theorem apart_tri (x y z : Br) : x.apart z ≤ x.apart y + y.apart z := by unfold Br.apart iabs; omega
theorem Inj.trans {p q r : List Br} {c d : Int} (h : Inj p q c) (h' : Inj q r d) (hc : 0 ≤ c) (hd : 0 ≤ d) : Inj p r (c + d) := by
  obtain ⟨f, h1, h2⟩ := h
  obtain ⟨g, h3, h4⟩ := h'
  refine ⟨fun x => g (f x), fun x hx hl => ?_, fun x y hx hy hl hl' e => ?_⟩
  · obtain ⟨a1, a2⟩ := h1 x hx (by omega)
    have := len_apart p[x] (q[f x]'a1)
    obtain ⟨b1, b2⟩ := h3 (f x) a1 (by omega)
    have := apart_tri p[x] (q[f x]'a1) (r[g (f x)]'b1)
    exact ⟨b1, by show p[x].apart (r[g (f x)]'b1) ≤ c + d; omega⟩
  · obtain ⟨a1, a2⟩ := h1 x hx (by omega)
    obtain ⟨b1, b2⟩ := h1 y hy (by omega)
    have := len_apart p[x] (q[f x]'a1)
    have := len_apart p[y] (q[f y]'b1)
    exact h2 x y hx hy (by omega) (by omega) (h4 _ _ a1 b1 (by omega) (by omega) e)

/-- A cost that serves lies at or above a cost of the list that serves. -/
theorem dd_le {p q : List Br} {L c : Int} (hL : L ≤ c) (h : Pos (fitsD p q c) (p.length + q.length)) : dd p q L ≤ c := by
  have hLC : L ∈ costsOf p q L := by unfold costsOf; simp
  obtain ⟨M, hM1, hM2⟩ := max_mem ((costsOf p q L).filter fun x => decide (x ≤ c)) (List.ne_nil_of_mem (List.mem_filter.2 ⟨hLC, by simpa using hL⟩))
  obtain ⟨hM3, hM4⟩ := List.mem_filter.1 hM1
  have hM4 : M ≤ c := of_decide_eq_true hM4
  have hle : ∀ x ∈ costsOf p q L, x ≤ c → x ≤ M := fun x hx hxc => hM2 x (List.mem_filter.2 ⟨hx, by simpa using hxc⟩)
  obtain ⟨cl1, cl2⟩ := costs_len p q L
  have hap : ∀ x ∈ p, ∀ y ∈ q, x.apart y ∈ costsOf p q L := fun x hx y hy => by
    unfold costsOf
    exact List.mem_append_left _ (List.mem_cons_of_mem _ (List.mem_flatMap.2 ⟨x, hx, List.mem_cons_of_mem _ (List.mem_map.2 ⟨y, hy, rfl⟩)⟩))
  have hp : Pos (fitsD p q M) (p.length + q.length) := h.mono fun i k hf => by
    unfold fitsD at *
    split
    · rename_i h1; rw [dif_pos h1] at hf
      exact decide_eq_true (hle _ (hap _ (List.getElem_mem h1.1) _ (List.getElem_mem h1.2)) (of_decide_eq_true hf))
    · rename_i h1
      rw [dif_neg h1] at hf
      split
      · rename_i h2; rw [dif_pos h2] at hf
        exact decide_eq_true (hle _ (cl1 _ (List.getElem_mem h2)) (of_decide_eq_true hf))
      · rename_i h2
        rw [dif_neg h2] at hf
        split
        · rename_i h3; rw [dif_pos h3] at hf
          exact decide_eq_true (hle _ (cl2 _ (List.getElem_mem h3)) (of_decide_eq_true hf))
        · rfl
  exact Int.le_trans ((dd_is p q L).2.2.2 M hM3 (hle L hLC hL) hp) hM4
theorem dd_lo (p q : List Br) (L : Int) : L ≤ dd p q L := (dd_is p q L).2.1
theorem dd_pos (p q : List Br) (L : Int) : Pos (fitsD p q (dd p q L)) (p.length + q.length) := (dd_is p q L).2.2.1
theorem dd_eq {p q : List Br} {L c : Int} (hL : L ≤ c) (h : Pos (fitsD p q c) (p.length + q.length)) (hm : ∀ d, L ≤ d → Pos (fitsD p q d) (p.length + q.length) → c ≤ d) : dd p q L = c := by
  have := dd_le hL h
  have := hm _ (dd_lo p q L) (dd_pos p q L)
  omega
theorem dd_congr {p q p' q' : List Br} {L : Int} (h1 : SimL p p') (h2 : SimL p' p) (h3 : SimL q q') (h4 : SimL q' q) : dd p q L = dd p' q' L := by
  have a : dd p' q' L ≤ dd p q L := dd_le (dd_lo p q L) (by
    have := pos_inj.1 (dd_pos p q L)
    exact pos_inj.2 ⟨(this.1.simL h2).simR h3, (this.2.simL h4).simR h1⟩)
  have b : dd p q L ≤ dd p' q' L := dd_le (dd_lo p' q' L) (by
    have := pos_inj.1 (dd_pos p' q' L)
    exact pos_inj.2 ⟨(this.1.simL h1).simR h4, (this.2.simL h3).simR h2⟩)
  omega
theorem dd_symm (p q : List Br) (L : Int) : dd p q L = dd q p L := by
  have a : dd q p L ≤ dd p q L := dd_le (dd_lo p q L) (pos_inj.2 (pos_inj.1 (dd_pos p q L)).symm)
  have b : dd p q L ≤ dd q p L := dd_le (dd_lo q p L) (pos_inj.2 (pos_inj.1 (dd_pos q p L)).symm)
  omega
end Go.Proofs.Ythdkhnjnhhofgaa

/- Walks: a list turned round; the law on orders. -/
set_option linter.unusedSimpArgs false
set_option linter.unusedVariables false
set_option maxRecDepth 100000
namespace Go.Proofs.Ythdkhnjnhhofgaa
open Go.Eng Go.RowKit Go.Kuhn

def Br.tw (b : Br) : Br := ⟨b.dim, b.birth, if b.opn then -b.death else b.death, b.opn, 77, b.high⟩
def Br.jk (b : Br) : Br := ⟨b.dim, 5, 5, false, 0, 0⟩
def turned (l : List Br) : List Br := l.reverse.flatMap fun b => [b.tw, b.jk]
theorem rdl_blk {h : Hp} {ms : List Hp} {g : Nat} {el : TypeId} {cs : List Value} (l : List Br) (n c : Nat) (hm : Blk g el cs ∈ ms) (hc : cs = l.flatMap cBr) (hn : n = l.length) (hnc : n ≤ c ∧ c ≤ 9223372036854775807) : RdL cBr 6 h ms (.slice (some ⟨g, 0, none⟩) n c) l := by
  subst hn hc
  exact ⟨Rd.blk hm (flatMap_len cBr_len l) hnc.1 hnc.2, cBr_len⟩
theorem turned_ok (l : List Br) (vl : Value) (h : Hp) (hR : RdL cBr 6 h [] vl l) (hl : l.length ≤ 1000000) (hA : ∀ b ∈ l, BOk b) :
    FnT Try.prog 17 #[vl] h [] (fun r h' ms' => ms' = [] ∧ RdL cBr 6 h' [] r (turned l)) := by
  refine fn_enter Try.func17 Try.ntmps17 rfl rfl (fun w0 hw0 => ?_)
  simp only [argS]
  refine ws_seq ?_
  refine ws_region ?_
  refine wl_x (ox_assign rfl rfl) rfl rfl rfl ?_
  refine wl_nil ?_
  refine nx_then ?_
  refine ws_seq ?_
  refine ws_region ?_
  refine wl_x (ox_assign rfl rfl) rfl rfl rfl ?_
  refine wl_nil ?_
  refine nx_then ?_
  refine ws_seq ?_
  refine ws_seq ?_
  refine ws_region ?_
  refine wl_x (ox_move rfl rfl) rfl rfl rfl ?_
  first | refine wl_x (ox_len (ty := 25) rfl Try.underlying25 rfl) rfl rfl rfl ?_ | refine wl_x (ox_lenR hR.rd.any rfl Try.underlying25 rfl) rfl rfl rfl ?_
  refine wl_x (ox_sub rfl rfl rfl (by omega)) rfl rfl rfl ?_
  refine wl_x (ox_assign rfl rfl) rfl rfl rfl ?_
  refine wl_nil ?_
  refine nx_then ?_
  refine ws_block ?_
  refine ws_emp ?_
  refine ws_loop (fun n s h' ms' => ∃ (k : Nat) (v : Value) (m : Hp) (x : Int), n = k + 0 ∧ s = [(0, vl), (3, v), (4, .int .i64 x)] ∧ h = h' ∧ ms' = [m] ∧ k ≤ l.length ∧ OwnL cBr 6 40 m v ((l.drop k).reverse.flatMap fun b => [b.tw, b.jk]) ∧ x = (k : Int) - 1)
    (l.length + 0) _ ⟨l.length, _, _, _, rfl, rfl, rfl, rfl, by omega, by simpa using OwnL.nil cBr_len, rfl⟩ (by repeat (first | exact trivial | refine ⟨rfl, ?_⟩)) ?_
  rintro n s h' ms' ⟨k, v, m, x, hn, rfl, rfl, rfl, hk, hO, hx⟩
  have hol : ((l.drop k).reverse.flatMap fun b => [b.tw, b.jk]).length ≤ 2 * l.length := by
    have : ∀ l' : List Br, (l'.flatMap fun b => [b.tw, b.jk]).length = 2 * l'.length := fun l' => by
      induction l' with
      | nil => rfl
      | cons a l' ih => rw [List.flatMap_cons, List.length_append, ih]; simp; omega
    rw [this]; simp; omega
  refine ws_seq ?_
  refine ws_seq ?_
  refine ws_region ?_
  refine wl_x (ox_move rfl rfl) rfl rfl rfl ?_
  refine wl_x (ox_geq rfl rfl rfl) rfl rfl rfl ?_
  refine wl_nil ?_
  refine nx_then ?_
  refine ws_if rfl (fun hge => ?_) (fun hge => ?_)
  · skip
    obtain ⟨j, rfl⟩ : ∃ j, k = j + 1 := ⟨k - 1, by omega⟩
    have hj : j < l.length := by omega
    have hdr : l.drop j = l[j] :: l.drop (j + 1) := List.drop_eq_getElem_cons hj
    obtain ⟨b1, b2, b3, b4⟩ := hA _ (List.getElem_mem hj)
    refine ws_skip ?_
    refine nx_then ?_
    refine ws_seq ?_
    refine ws_block ?_
    refine ws_seq ?_
    refine ws_region ?_
    refine wl_x (ox_move rfl rfl) rfl rfl rfl ?_
    refine wl_x (ox_move rfl rfl) rfl rfl rfl ?_
    first | refine wl_x (ox_index j rfl Try.underlying25 el40 rfl rfl (by omega) (by omega)) rfl rfl rfl ?_ | refine wl_x (ox_indexR j hR.rd.any rfl Try.underlying25 el40 rfl rfl (by omega) (by omega)) rfl rfl rfl ?_
    refine wl_x (ox_loadG rfl Try.underlying40 rfl el40 rfl rfl (by first | exact hR.any.seg hj)) rfl rfl rfl ?_
    refine wl_alloc [.int .i64 0, .int .i64 0, .int .i64 0, .bool false, .int .i64 0, .int .i64 0] rfl el40 rfl rfl rfl rfl (fun g5 => ?_)
    first | refine wl_storeAll 0 [_, _, _, _, _, _] rfl el40 rfl rfl rfl (by first | (simp [Value.oneCell']; done) | (simp [(hR.rd.any).one]; done) | simp [Value.oneCell', (hR.rd.any).one]) rfl rfl rfl rfl rfl ?_ | refine wl_storeAll 1 [_, _, _, _, _, _] rfl el40 rfl rfl rfl (by first | (simp [Value.oneCell']; done) | (simp [(hR.rd.any).one]; done) | simp [Value.oneCell', (hR.rd.any).one]) rfl rfl rfl rfl rfl ?_ | refine wl_storeAll 2 [_, _, _, _, _, _] rfl el40 rfl rfl rfl (by first | (simp [Value.oneCell']; done) | (simp [(hR.rd.any).one]; done) | simp [Value.oneCell', (hR.rd.any).one]) rfl rfl rfl rfl rfl ?_ | refine wl_storeAll 3 [_, _, _, _, _, _] rfl el40 rfl rfl rfl (by first | (simp [Value.oneCell']; done) | (simp [(hR.rd.any).one]; done) | simp [Value.oneCell', (hR.rd.any).one]) rfl rfl rfl rfl rfl ?_ | refine wl_storeAll 4 [_, _, _, _, _, _] rfl el40 rfl rfl rfl (by first | (simp [Value.oneCell']; done) | (simp [(hR.rd.any).one]; done) | simp [Value.oneCell', (hR.rd.any).one]) rfl rfl rfl rfl rfl ?_
    refine wl_nil ?_
    refine nx_then ?_
    refine ws_seq ?_
    refine ws_region ?_
    refine wl_x (ox_fieldF fd40_4 rfl rfl) rfl rfl rfl ?_
    first | refine wl_storeAt 0 _ rfl el3 rfl rfl (by first | rfl | exact Rd.one ‹_› | exact (RdL.rd ‹_›).one) rfl rfl (by first | decide | (simp; done) | exact of_decide_eq_true rfl | (simp; omega)) rfl rfl ?_ | refine wl_storeAt 1 _ rfl el3 rfl rfl (by first | rfl | exact Rd.one ‹_› | exact (RdL.rd ‹_›).one) rfl rfl (by first | decide | (simp; done) | exact of_decide_eq_true rfl | (simp; omega)) rfl rfl ?_ | refine wl_storeAt 2 _ rfl el3 rfl rfl (by first | rfl | exact Rd.one ‹_› | exact (RdL.rd ‹_›).one) rfl rfl (by first | decide | (simp; done) | exact of_decide_eq_true rfl | (simp; omega)) rfl rfl ?_ | refine wl_storeAt 3 _ rfl el3 rfl rfl (by first | rfl | exact Rd.one ‹_› | exact (RdL.rd ‹_›).one) rfl rfl (by first | decide | (simp; done) | exact of_decide_eq_true rfl | (simp; omega)) rfl rfl ?_ | refine wl_storeAt 4 _ rfl el3 rfl rfl (by first | rfl | exact Rd.one ‹_› | exact (RdL.rd ‹_›).one) rfl rfl (by first | decide | (simp; done) | exact of_decide_eq_true rfl | (simp; omega)) rfl rfl ?_
    refine wl_nil ?_
    refine nx_then ?_
    refine ws_seq ?_
    refine ws_seq ?_
    refine ws_region ?_
    refine wl_x (ox_fieldF fd40_3 rfl rfl) rfl rfl rfl ?_
    refine wl_x (ox_load rfl Try.underlying4 rfl rfl (by first | exact Cell.blk 0 rfl rfl | exact Cell.blk 1 rfl rfl | exact Cell.blk 2 rfl rfl | exact Cell.blk 3 rfl rfl | exact Cell.blk 4 rfl rfl)) rfl rfl rfl ?_
    refine wl_nil ?_
    refine nx_then ?_
    refine ws_cond rfl (fun ho => ?_) (fun ho => ?_)
    · skip
      refine ws_region ?_
      refine wl_x (ox_fieldF fd40_2 rfl rfl) rfl rfl rfl ?_
      refine wl_x (ox_load rfl Try.underlying3 rfl rfl (by first | exact Cell.blk 0 rfl rfl | exact Cell.blk 1 rfl rfl | exact Cell.blk 2 rfl rfl | exact Cell.blk 3 rfl rfl | exact Cell.blk 4 rfl rfl)) rfl rfl rfl ?_
      refine wl_x (ox_neg rfl rfl (by omega)) rfl rfl rfl ?_
      refine wl_x (ox_fieldF fd40_2 rfl rfl) rfl rfl rfl ?_
      first | refine wl_storeAt 0 _ rfl el3 rfl rfl (by first | rfl | exact Rd.one ‹_› | exact (RdL.rd ‹_›).one) rfl rfl (by first | decide | (simp; done) | exact of_decide_eq_true rfl | (simp; omega)) rfl rfl ?_ | refine wl_storeAt 1 _ rfl el3 rfl rfl (by first | rfl | exact Rd.one ‹_› | exact (RdL.rd ‹_›).one) rfl rfl (by first | decide | (simp; done) | exact of_decide_eq_true rfl | (simp; omega)) rfl rfl ?_ | refine wl_storeAt 2 _ rfl el3 rfl rfl (by first | rfl | exact Rd.one ‹_› | exact (RdL.rd ‹_›).one) rfl rfl (by first | decide | (simp; done) | exact of_decide_eq_true rfl | (simp; omega)) rfl rfl ?_ | refine wl_storeAt 3 _ rfl el3 rfl rfl (by first | rfl | exact Rd.one ‹_› | exact (RdL.rd ‹_›).one) rfl rfl (by first | decide | (simp; done) | exact of_decide_eq_true rfl | (simp; omega)) rfl rfl ?_ | refine wl_storeAt 4 _ rfl el3 rfl rfl (by first | rfl | exact Rd.one ‹_› | exact (RdL.rd ‹_›).one) rfl rfl (by first | decide | (simp; done) | exact of_decide_eq_true rfl | (simp; omega)) rfl rfl ?_
      refine wl_nil ?_
      refine nx_then ?_
      refine ws_region ?_
      refine wl_x (ox_move rfl rfl) rfl rfl rfl ?_
      refine wl_x (ox_loadG rfl Try.underlying40 rfl el40 rfl rfl (by first | exact Seg.blk 0 rfl | exact Seg.blk 1 rfl | exact Seg.blk 2 rfl | exact Seg.blk 3 rfl | exact Seg.blk 4 rfl | exact hR.any.seg hj)) rfl rfl rfl ?_
      refine wl_x (ox_fieldF fd40_0 rfl rfl) rfl rfl rfl ?_
      refine wl_x (ox_load rfl Try.underlying3 rfl rfl (by first | exact Cell.blk 0 rfl rfl | exact Cell.blk 1 rfl rfl | exact Cell.blk 2 rfl rfl | exact Cell.blk 3 rfl rfl | exact Cell.blk 4 rfl rfl)) rfl rfl rfl ?_
      refine wl_x (ox_buildS st40 [.int .i64 0, .int .i64 0, .int .i64 0, .bool false, .int .i64 0, .int .i64 0] [(0, _), (1, _), (2, _)] [_, _, _, _, _, _] rfl el40 rfl rfl (by repeat (first | exact trivial | refine ⟨⟨rfl, rfl, rfl⟩, ?_⟩)) rfl) rfl rfl rfl ?_
      refine wl_buildSlice [(0, _), (6, _)] [.int .i64 0, .int .i64 0, .int .i64 0, .bool false, .int .i64 0, .int .i64 0, .int .i64 0, .int .i64 0, .int .i64 0, .bool false, .int .i64 0, .int .i64 0] [_, _, _, _, _, _, _, _, _, _, _, _] rfl Try.underlying25 el40 rfl (by omega) (by first | rfl | kernel_rfl | simp [madeCells]) (by repeat (first | exact trivial | refine ⟨⟨by first | rfl | exact (hR.rd.any).cells | exact Rd.cells ‹_› | exact (RdL.rd ‹_›).cells, rfl, rfl⟩, ?_⟩)) rfl rfl rfl rfl (fun g29 => ?_)
      refine wl_appendL 2 hO (rdl_blk [l[j].tw, l[j].jk] 2 2 (List.Mem.head _) (by simp [cBr, Br.tw, Br.jk, ho]) rfl (by omega)) rfl Try.underlying25 el40 rfl (by omega) rfl rfl rfl cBr_one (by simp only [List.length_cons, List.length_nil]; omega) (by simp only [List.length_cons, List.length_nil]; omega) rfl rfl rfl (fun v' m' hO' => ?_)
      refine wl_x (ox_assign rfl rfl) rfl rfl rfl ?_
      refine wl_nil ?_
      refine nx_block ?_
      refine nx_then ?_
      refine ws_region ?_
      refine wl_x (ox_move rfl rfl) rfl rfl rfl ?_
      refine wl_x (ox_sub rfl rfl rfl (by omega)) rfl rfl rfl ?_
      refine wl_x (ox_assign rfl rfl) rfl rfl rfl ?_
      refine wl_nil ?_
      refine nx_drop (nx_drop ?_)
      refine nx_round (j + 0) _ (by omega) ⟨j, v', m', x - 1, rfl, rfl, rfl, rfl, by omega, by rw [hdr, List.reverse_cons, List.flatMap_append]; simpa using hO', by omega⟩ (by repeat (first | exact trivial | refine ⟨rfl, ?_⟩))
    · skip
      refine ws_skip ?_
      refine nx_then ?_
      refine ws_region ?_
      refine wl_x (ox_move rfl rfl) rfl rfl rfl ?_
      refine wl_x (ox_loadG rfl Try.underlying40 rfl el40 rfl rfl (by first | exact Seg.blk 0 rfl | exact Seg.blk 1 rfl | exact Seg.blk 2 rfl | exact Seg.blk 3 rfl | exact Seg.blk 4 rfl | exact hR.any.seg hj)) rfl rfl rfl ?_
      refine wl_x (ox_fieldF fd40_0 rfl rfl) rfl rfl rfl ?_
      refine wl_x (ox_load rfl Try.underlying3 rfl rfl (by first | exact Cell.blk 0 rfl rfl | exact Cell.blk 1 rfl rfl | exact Cell.blk 2 rfl rfl | exact Cell.blk 3 rfl rfl | exact Cell.blk 4 rfl rfl)) rfl rfl rfl ?_
      refine wl_x (ox_buildS st40 [.int .i64 0, .int .i64 0, .int .i64 0, .bool false, .int .i64 0, .int .i64 0] [(0, _), (1, _), (2, _)] [_, _, _, _, _, _] rfl el40 rfl rfl (by repeat (first | exact trivial | refine ⟨⟨rfl, rfl, rfl⟩, ?_⟩)) rfl) rfl rfl rfl ?_
      refine wl_buildSlice [(0, _), (6, _)] [.int .i64 0, .int .i64 0, .int .i64 0, .bool false, .int .i64 0, .int .i64 0, .int .i64 0, .int .i64 0, .int .i64 0, .bool false, .int .i64 0, .int .i64 0] [_, _, _, _, _, _, _, _, _, _, _, _] rfl Try.underlying25 el40 rfl (by omega) (by first | rfl | kernel_rfl | simp [madeCells]) (by repeat (first | exact trivial | refine ⟨⟨by first | rfl | exact (hR.rd.any).cells | exact Rd.cells ‹_› | exact (RdL.rd ‹_›).cells, rfl, rfl⟩, ?_⟩)) rfl rfl rfl rfl (fun g29 => ?_)
      refine wl_appendL 2 hO (rdl_blk [l[j].tw, l[j].jk] 2 2 (List.Mem.head _) (by simp [cBr, Br.tw, Br.jk, ho]) rfl (by omega)) rfl Try.underlying25 el40 rfl (by omega) rfl rfl rfl cBr_one (by simp only [List.length_cons, List.length_nil]; omega) (by simp only [List.length_cons, List.length_nil]; omega) rfl rfl rfl (fun v' m' hO' => ?_)
      refine wl_x (ox_assign rfl rfl) rfl rfl rfl ?_
      refine wl_nil ?_
      refine nx_block ?_
      refine nx_then ?_
      refine ws_region ?_
      refine wl_x (ox_move rfl rfl) rfl rfl rfl ?_
      refine wl_x (ox_sub rfl rfl rfl (by omega)) rfl rfl rfl ?_
      refine wl_x (ox_assign rfl rfl) rfl rfl rfl ?_
      refine wl_nil ?_
      refine nx_drop (nx_drop ?_)
      refine nx_round (j + 0) _ (by omega) ⟨j, v', m', x - 1, rfl, rfl, rfl, rfl, by omega, by rw [hdr, List.reverse_cons, List.flatMap_append]; simpa using hO', by omega⟩ (by repeat (first | exact trivial | refine ⟨rfl, ?_⟩))
  · skip
    obtain rfl : k = 0 := by omega
    refine ws_exit ?_
    refine nx_then_exit ?_
    refine nx_then_exit ?_
    refine nx_block_exit ?_
    refine nx_then ?_
    refine ws_seq ?_
    refine ws_region ?_
    refine wl_x (ox_move rfl rfl) rfl rfl rfl ?_
    refine wl_x (ox_assign rfl rfl) rfl rfl rfl ?_
    refine wl_nil ?_
    refine nx_then ?_
    refine ws_ret ?_
    refine nx_freezeL hO (fun h' hle hR' => ?_)
    exact nx_ret1 rfl rfl (⟨rfl, by simpa [turned] using hR'⟩)
end Go.Proofs.Ythdkhnjnhhofgaa

/- The law on orders. -/
set_option linter.unusedSimpArgs false
set_option linter.unusedVariables false
set_option maxRecDepth 100000
namespace Go.Proofs.Ythdkhnjnhhofgaa
open Go.Eng Go.RowKit Go.Kuhn

theorem filter_two {f g : Br → Bool} {t : Br → Br} {u : Br → Br} (h1 : ∀ b, f (t b) = g b) (h2 : ∀ b, f (u b) = false) : ∀ l : List Br, (l.flatMap fun b => [t b, u b]).filter f = (l.filter g).map t
  | [] => rfl
  | b :: l => by
    rw [List.flatMap_cons, List.filter_append, filter_two h1 h2 l]
    cases hg : g b <;> simp [h1, h2, hg]
theorem turned_open (dim : Int) (l : List Br) : (turned l).filter (Br.openIn dim) = ((l.reverse).filter (Br.openIn dim)).map Br.tw :=
  filter_two (fun b => rfl) (fun b => by simp [Br.openIn, Br.jk]) _
theorem turned_fin (dim : Int) (l : List Br) : (turned l).filter (Br.finIn dim) = ((l.reverse).filter (Br.finIn dim)).map Br.tw :=
  filter_two (fun b => by unfold Br.finIn Br.cnt Br.tw; cases h : b.opn <;> simp) (fun b => by simp [Br.finIn, Br.jk, Br.cnt]) _
theorem turned_births (dim : Int) (l : List Br) : birthsOf dim (turned l) = birthsOf dim l := by
  unfold birthsOf
  refine isort_of ?_ (isort_sorted _) |>.trans rfl
  rw [turned_open, List.map_map]
  refine List.Perm.trans ?_ (isort_perm _).symm
  rw [show Br.birth ∘ Br.tw = Br.birth from rfl]
  exact ((List.reverse_perm l).filter _).map _
theorem turned_sim (dim : Int) (l : List Br) : SimL ((turned l).filter (Br.finIn dim)) (l.filter (Br.finIn dim)) ∧ SimL (l.filter (Br.finIn dim)) ((turned l).filter (Br.finIn dim)) := by
  have h1 := (List.reverse_perm l).filter (Br.finIn dim)
  have h2 : ∀ b ∈ l.reverse.filter (Br.finIn dim), (Br.tw b).sim (id b) := fun b hb => by
    have := (List.mem_filter.1 hb).2
    unfold Br.finIn at this
    simp at this
    simp [Br.sim, Br.tw, this.1.2]
  rw [turned_fin]
  constructor
  · have := SimL.of_map (f := Br.tw) (g := id) h1 h2
    simpa using this
  · have := SimL.of_map (f := id) (g := Br.tw) h1.symm fun b hb => ⟨(h2 b (h1.mem_iff.2 hb)).1.symm, (h2 b (h1.mem_iff.2 hb)).2.symm⟩
    simpa using this
theorem turned_dist (dim : Int) (a b : List Br) : dist2 dim (turned a) (turned b) = dist2 dim a b := by
  unfold dist2
  rw [turned_births, turned_births]
  split
  · rw [dd_congr (turned_sim dim a).1 (turned_sim dim a).2 (turned_sim dim b).1 (turned_sim dim b).2]
  · rfl
theorem turned_bd {l : List Br} (h : ∀ b ∈ l, Bd 2000000 b) : ∀ b ∈ turned l, Bd 2000000 b := by
  intro b hb
  obtain ⟨x, hx, hb⟩ := List.mem_flatMap.1 hb
  obtain ⟨g1, g2, g3, g4, g5, g6⟩ := h x (by simpa using hx)
  simp at hb
  rcases hb with rfl | rfl
  · exact ⟨g1, g2, by show -2000000 ≤ (if x.opn then -x.death else x.death); split <;> omega, by show (if x.opn then -x.death else x.death) ≤ 2000000; split <;> omega, g5, g6⟩
  · exact ⟨by show (-2000000 : Int) ≤ 5; omega, by show (5 : Int) ≤ 2000000; omega, by show (-2000000 : Int) ≤ 5; omega, by show (5 : Int) ≤ 2000000; omega, g5, g6⟩
theorem turned_len (l : List Br) : (turned l).length = 2 * l.length := by
  unfold turned
  have : ∀ l' : List Br, (l'.flatMap fun b => [b.tw, b.jk]).length = 2 * l'.length := fun l' => by
    induction l' with
    | nil => rfl
    | cons a l' ih => rw [List.flatMap_cons, List.length_append, ih]; simp; omega
  rw [this, List.length_reverse]

theorem order_ok (l m : List Tri) (vl vm : Value) (h : Hp) (hl : RdL cT 3 h [] vl l) (hm : RdL cT 3 h [] vm m) (hL : ∀ t ∈ l, TOk t) (hM : ∀ t ∈ m, TOk t) :
    FnT Try.prog 6 #[vl, vm] h [] (fun r _ _ => r = .bool true) := by
  refine fn_enter Try.func6 Try.ntmps6 rfl rfl (fun w0 hw0 => ?_)
  simp only [argS]
  refine ws_seq ?_
  refine ws_region ?_
  refine wl_x (ox_assign rfl rfl) rfl rfl rfl ?_
  refine wl_nil ?_
  refine nx_then ?_
  refine ws_seq ?_
  refine ws_region ?_
  refine wl_x (ox_call rfl Try.call9 rfl (sanity_ok _ _)) rfl rfl rfl ?_
  refine wl_x (ox_assign rfl rfl) rfl rfl rfl ?_
  refine wl_nil ?_
  refine nx_then ?_
  refine ws_seq ?_
  refine ws_region ?_
  refine wl_x (ox_move rfl rfl) rfl rfl rfl ?_
  refine wl_call rfl Try.call10 rfl (made_ok l vl h hl hL) rfl rfl rfl (fun va h1 _ l1 hF => ?_)
  obtain ⟨rfl, hRa⟩ := hF
  obtain ⟨la, ba⟩ := made_bd l
  refine wl_x (ox_assign rfl rfl) rfl rfl rfl ?_
  refine wl_nil ?_
  refine nx_then ?_
  refine ws_seq ?_
  refine ws_region ?_
  refine wl_x (ox_move rfl rfl) rfl rfl rfl ?_
  refine wl_call rfl Try.call10 rfl (made_ok m vm h1 (hm.up l1) hM) rfl rfl rfl (fun vb h2 _ l2 hF => ?_)
  obtain ⟨rfl, hRb⟩ := hF
  obtain ⟨lb, bb⟩ := made_bd m
  have hRa := hRa.up l2
  generalize made l = a at *
  generalize made m = b at *
  have hA : ∀ x ∈ a, BOk x := fun x hx => (ba x hx).ok (by omega)
  have hB : ∀ x ∈ b, BOk x := fun x hx => (bb x hx).ok (by omega)
  have hA2 : ∀ x ∈ turned a, BOk x := fun x hx => (turned_bd ba x hx).ok (by omega)
  have hB2 : ∀ x ∈ turned b, BOk x := fun x hx => (turned_bd bb x hx).ok (by omega)
  have ta := turned_len a
  have tb := turned_len b
  refine wl_x (ox_assign rfl rfl) rfl rfl rfl ?_
  refine wl_nil ?_
  refine nx_then ?_
  refine ws_seq ?_
  refine ws_seq ?_
  refine ws_region ?_
  refine wl_x (ox_assign rfl rfl) rfl rfl rfl ?_
  refine wl_nil ?_
  refine nx_then ?_
  refine ws_block ?_
  refine ws_loop (fun n s h' ms' => ∃ (i : Nat), n = 3 - i ∧ s = [(5, .bool true), (6, va), (7, vb), (8, .int .i64 i)] ∧ h2.le h' ∧ ms' = [] ∧ i ≤ 3)
    (3 - 0) _ ⟨0, rfl, rfl, Hp.le_refl _, rfl, by omega⟩ (by repeat (first | exact trivial | refine ⟨rfl, ?_⟩)) ?_
  rintro n s h3 ms' ⟨i, rfl, rfl, l3, rfl, hi⟩
  have hRa := hRa.up l3
  have hRb := hRb.up l3
  refine ws_seq ?_
  refine ws_seq ?_
  refine ws_region ?_
  refine wl_x (ox_move rfl rfl) rfl rfl rfl ?_
  refine wl_x (ox_lss rfl rfl rfl) rfl rfl rfl ?_
  refine wl_nil ?_
  refine nx_then ?_
  refine ws_if rfl (fun hlt => ?_) (fun hlt => ?_)
  · skip
    refine ws_skip ?_
    refine nx_then ?_
    refine ws_seq ?_
    refine ws_block ?_
    refine ws_seq ?_
    refine ws_region ?_
    refine wl_x (ox_move rfl rfl) rfl rfl rfl ?_
    refine wl_x (ox_move rfl rfl) rfl rfl rfl ?_
    refine wl_x (ox_move rfl rfl) rfl rfl rfl ?_
    refine wl_x (ox_call rfl Try.call12 rfl (distance_v a b va vb i h3 hRa hRb (by omega) (by omega) hA hB _)) rfl rfl rfl ?_
    refine wl_x (ox_move rfl rfl) rfl rfl rfl ?_
    refine wl_x (ox_extract rfl rfl rfl) rfl rfl rfl ?_
    refine wl_x (ox_extract rfl rfl rfl) rfl rfl rfl ?_
    refine wl_x (ox_assign rfl rfl) rfl rfl rfl ?_
    refine wl_x (ox_assign rfl rfl) rfl rfl rfl ?_
    refine wl_nil ?_
    refine nx_then ?_
    refine ws_seq ?_
    refine ws_region ?_
    refine wl_x (ox_move rfl rfl) rfl rfl rfl ?_
    refine wl_call rfl Try.call17 rfl (turned_ok a va h3 hRa (by omega) hA) rfl rfl rfl (fun v1 h4 _ l4 hF => ?_)
    obtain ⟨rfl, hR1⟩ := hF
    refine wl_x (ox_move rfl rfl) rfl rfl rfl ?_
    refine wl_call rfl Try.call17 rfl (turned_ok b vb h4 (hRb.up l4) (by omega) hB) rfl rfl rfl (fun v2 h5 _ l5 hF => ?_)
    obtain ⟨rfl, hR2⟩ := hF
    refine wl_x (ox_move rfl rfl) rfl rfl rfl ?_
    refine wl_x (ox_call rfl Try.call12 rfl (distance_v (turned a) (turned b) v1 v2 i h5 (hR1.up l5) hR2 (by omega) (by omega) hA2 hB2 _)) rfl rfl rfl ?_
    rw [turned_dist]
    refine wl_x (ox_move rfl rfl) rfl rfl rfl ?_
    refine wl_x (ox_extract rfl rfl rfl) rfl rfl rfl ?_
    refine wl_x (ox_extract rfl rfl rfl) rfl rfl rfl ?_
    refine wl_x (ox_assign rfl rfl) rfl rfl rfl ?_
    refine wl_x (ox_assign rfl rfl) rfl rfl rfl ?_
    refine wl_nil ?_
    refine nx_then ?_
    refine ws_seq ?_
    refine ws_region ?_
    refine wl_x (ox_move rfl rfl) rfl rfl rfl ?_
    refine wl_x (ox_move rfl rfl) rfl rfl rfl ?_
    refine wl_x (ox_nei rfl rfl rfl) rfl rfl rfl ?_
    refine wl_x (ox_move rfl rfl) rfl rfl rfl ?_
    refine wl_split (t := 41) rfl (fun hs => absurd hs (by simp)) (fun hs => ?_)
    refine wl_gx (ox_move rfl rfl) rfl rfl rfl rfl rfl rfl ?_
    refine wl_gx (ox_move rfl rfl) rfl rfl rfl rfl rfl rfl ?_
    refine wl_gx (ox_neb rfl Try.underlying4 rfl rfl) rfl rfl rfl rfl rfl rfl ?_
    refine wl_x (ox_pick_f rfl rfl rfl) rfl rfl rfl ?_
    refine wl_nil ?_
    refine nx_then ?_
    refine ws_cond rfl (fun hc => ?_) (fun hc => ?_)
    · skip
      simp at hc
    · skip
      refine ws_skip ?_
      refine nx_block ?_
      refine nx_then ?_
      refine ws_region ?_
      refine wl_x (ox_move rfl rfl) rfl rfl rfl ?_
      refine wl_x (ox_add rfl rfl rfl (by omega)) rfl rfl rfl ?_
      refine wl_x (ox_assign rfl rfl) rfl rfl rfl ?_
      refine wl_nil ?_
      refine nx_round (3 - (i + 1)) _ (by omega) ⟨i + 1, rfl, rfl, Hp.le_trans l3 (Hp.le_trans l4 l5), rfl, by omega⟩ (by repeat (first | exact trivial | refine ⟨rfl, ?_⟩))
  · skip
    refine ws_exit ?_
    refine nx_then_exit ?_
    refine nx_then_exit ?_
    refine nx_block_exit ?_
    refine nx_then ?_
    refine ws_seq ?_
    refine ws_region ?_
    refine wl_x (ox_move rfl rfl) rfl rfl rfl ?_
    refine wl_x (ox_assign rfl rfl) rfl rfl rfl ?_
    refine wl_nil ?_
    refine nx_then ?_
    refine ws_ret ?_
    exact nx_ret1 rfl rfl (rfl)
end Go.Proofs.Ythdkhnjnhhofgaa

/- The law on lists that are moved as a whole. -/
set_option linter.unusedSimpArgs false
set_option linter.unusedVariables false
set_option maxRecDepth 100000
namespace Go.Proofs.Ythdkhnjnhhofgaa
open Go.Eng Go.RowKit Go.Kuhn

theorem leastOf_le (M : Int) : ∀ (l : List (Int × Int)) (a : Int), l.foldl (fun m p => max m (2 * iabs (p.1 - p.2))) a ≤ M ↔ a ≤ M ∧ ∀ p ∈ l, 2 * iabs (p.1 - p.2) ≤ M
  | [], a => by simp
  | p :: l, a => by
    rw [List.foldl_cons, leastOf_le M l]
    constructor
    · rintro ⟨h1, h2⟩
      have h1 : max a (2 * iabs (p.1 - p.2)) ≤ M := h1
      refine ⟨by omega, fun q hq => ?_⟩
      rcases List.mem_cons.1 hq with rfl | hq
      · omega
      · exact h2 q hq
    · rintro ⟨h1, h2⟩
      have := h2 p (by simp)
      exact ⟨by show max a (2 * iabs (p.1 - p.2)) ≤ M; omega, fun q hq => h2 q (by simp [hq])⟩
theorem leastOf_iff {l : List (Int × Int)} {M : Int} : leastOf l ≤ M ↔ 0 ≤ M ∧ ∀ p ∈ l, 2 * iabs (p.1 - p.2) ≤ M := leastOf_le M l 0

def Br.sh (k : Int) (b : Br) : Br := ⟨b.dim, b.birth + k, b.death + k, b.opn, b.low, b.high⟩
theorem sh_open (k dim : Int) (l : List Br) : (l.map (Br.sh k)).filter (Br.openIn dim) = (l.filter (Br.openIn dim)).map (Br.sh k) := by
  rw [List.filter_map]; rfl
theorem sh_fin (k dim : Int) (l : List Br) : (l.map (Br.sh k)).filter (Br.finIn dim) = (l.filter (Br.finIn dim)).map (Br.sh k) := by
  rw [List.filter_map]
  refine congrArg (List.map (Br.sh k)) (List.filter_congr fun b _ => ?_)
  have e : (b.sh k).cnt = b.cnt := by
    unfold Br.cnt Br.sh
    congr 1
    exact decide_eq_decide.2 (by simp only; omega)
  show Br.finIn dim (b.sh k) = _
  unfold Br.finIn
  rw [e]; rfl
theorem sh_births (k dim : Int) (l : List Br) : birthsOf dim (l.map (Br.sh k)) = (birthsOf dim l).map (· + k) := by
  unfold birthsOf
  rw [sh_open]
  refine isort_of ?_ ?_
  · rw [List.map_map]
    have := ((isort_perm ((l.filter (Br.openIn dim)).map Br.birth)).symm.map (· + k))
    rw [List.map_map] at this
    exact this
  · exact List.pairwise_map.2 ((isort_sorted _).imp fun h => by omega)
theorem zip_sh (k : Int) : ∀ X : List Int, ∀ p ∈ X.zip (X.map (· + k)), iabs (p.1 - p.2) = iabs k
  | [], p, h => by simp at h
  | x :: X, p, h => by
    rw [List.map_cons, List.zip_cons_cons] at h
    rcases List.mem_cons.1 h with rfl | h
    · show iabs (x - (x + k)) = iabs k
      unfold iabs; omega
    · exact zip_sh k X p h
theorem sh_dist (k dim : Int) (l : List Br) : (dist2 dim l (l.map (Br.sh k))).2 = true ∧ (dist2 dim l (l.map (Br.sh k))).1 ≤ 2 * iabs k ∧ (birthsOf dim l ≠ [] → (dist2 dim l (l.map (Br.sh k))).1 = 2 * iabs k) := by
  have h0 : 0 ≤ iabs k := by unfold iabs; omega
  unfold dist2
  rw [sh_births, if_pos (by simp), sh_fin]
  have hL : leastOf ((birthsOf dim l).zip ((birthsOf dim l).map (· + k))) ≤ 2 * iabs k := leastOf_iff.2 ⟨by omega, fun p hp => by rw [zip_sh k _ p hp]; omega⟩
  have hI : ∀ p : List Br, Inj p (p.map (Br.sh k)) (2 * iabs k) ∧ Inj (p.map (Br.sh k)) p (2 * iabs k) := fun p => by
    have ha : ∀ b : Br, b.apart (b.sh k) = 2 * iabs k := fun b => by unfold Br.apart Br.sh iabs; simp only; omega
    constructor
    · exact ⟨id, fun x hx _ => ⟨by simpa using hx, by simp [ha]⟩, fun x y _ _ _ _ e => e⟩
    · exact ⟨id, fun x hx _ => ⟨by simpa using hx, by rw [apart_comm]; simp [ha]⟩, fun x y _ _ _ _ e => e⟩
  have hd : dd (l.filter (Br.finIn dim)) ((l.filter (Br.finIn dim)).map (Br.sh k)) (leastOf ((birthsOf dim l).zip ((birthsOf dim l).map (· + k)))) ≤ 2 * iabs k :=
    dd_le hL (pos_inj.2 (hI _))
  refine ⟨rfl, hd, fun hne => ?_⟩
  have h1 := dd_lo (l.filter (Br.finIn dim)) ((l.filter (Br.finIn dim)).map (Br.sh k)) (leastOf ((birthsOf dim l).zip ((birthsOf dim l).map (· + k))))
  have h2 : 2 * iabs k ≤ leastOf ((birthsOf dim l).zip ((birthsOf dim l).map (· + k))) := by
    obtain ⟨x, X, e⟩ := List.exists_cons_of_ne_nil hne
    have := (leastOf_iff.1 (Int.le_refl (leastOf ((birthsOf dim l).zip ((birthsOf dim l).map (· + k)))))).2 (x, x + k) (by rw [e]; simp)
    have e2 : iabs (x - (x + k)) = iabs k := by unfold iabs; omega
    simp only at this
    rw [e2] at this; exact this
  show dd _ _ _ = _
  omega
/-- Is there an open bar of a dimension? -/
def hasO (l : List Br) (d : Nat) : Bool := l.any fun b => b.opn && decide (b.dim = d)
theorem hasO_snoc (l : List Br) (b : Br) (d : Nat) : hasO (l ++ [b]) d = (hasO l d || (b.opn && decide (b.dim = d))) := by simp [hasO]
theorem hasO_births {l : List Br} {d : Nat} : hasO l d = true → birthsOf d l ≠ [] := by
  intro h
  obtain ⟨b, hb, h⟩ := List.any_eq_true.1 h
  simp at h
  intro e
  have : b.birth ∈ birthsOf d l := (isort_perm _).mem_iff.2 (List.mem_map.2 ⟨b, List.mem_filter.2 ⟨hb, by simp [Br.openIn, h.1, h.2]⟩, rfl⟩)
  rw [e] at this; simp at this

def hL (l : List Br) : List Value := [.bool (hasO l 0), .bool (hasO l 1), .bool (hasO l 2)]
theorem hL_get (l : List Br) {j : Nat} (hj : j < 3) : (hL l)[j]? = some (.bool (hasO l j)) := by
  rcases (by omega : j = 0 ∨ j = 1 ∨ j = 2) with rfl | rfl | rfl <;> rfl
theorem hL_set (l : List Br) (b : Br) {j : Nat} (hj : j < 3) (hb : b.dim = j) {x : Bool} (hx : x = (hasO l j || b.opn)) : (hL l).set j (.bool x) = hL (l ++ [b]) := by
  subst hx
  unfold hL
  rcases (by omega : j = 0 ∨ j = 1 ∨ j = 2) with rfl | rfl | rfl <;> simp [hasO_snoc, hb]
theorem cell_at {h : Hp} {ms : List Hp} {g : Nat} {el : TypeId} {l : List Value} (i : Nat) {k : Nat} {v : Value} (hm : ms[i]? = some (Blk g el l)) (hv : l[k]? = some v) : Cell h ms ((⟨g, 0, none⟩ : Addr).add (k * 1)) v := by
  rw [Nat.mul_one]; exact Cell.blk i hm hv

theorem shifted_ok (l : List Tri) (k : Int) (vl : Value) (h : Hp) (hl : RdL cT 3 h [] vl l) (hL' : ∀ t ∈ l, TOk t) (hk : -32768 ≤ k ∧ k ≤ 32767) :
    FnT Try.prog 5 #[vl, .int .i16 k] h [] (fun r _ _ => r = .bool true) := by
  refine fn_enter Try.func5 Try.ntmps5 rfl rfl (fun w0 hw0 => ?_)
  simp only [argS]
  refine ws_seq ?_
  refine ws_region ?_
  refine wl_x (ox_assign rfl rfl) rfl rfl rfl ?_
  refine wl_nil ?_
  refine nx_then ?_
  refine ws_seq ?_
  refine ws_region ?_
  refine wl_x (ox_call rfl Try.call9 rfl (sanity_ok _ _)) rfl rfl rfl ?_
  refine wl_x (ox_assign rfl rfl) rfl rfl rfl ?_
  refine wl_nil ?_
  refine nx_then ?_
  refine ws_seq ?_
  refine ws_region ?_
  refine wl_x (ox_move rfl rfl) rfl rfl rfl ?_
  refine wl_call rfl Try.call10 rfl (made_ok l vl h hl hL') rfl rfl rfl (fun va h1 _ l1 hF => ?_)
  obtain ⟨rfl, hRa⟩ := hF
  obtain ⟨la, ba⟩ := made_bd l
  generalize made l = a at *
  refine wl_x (ox_assign rfl rfl) rfl rfl rfl ?_
  refine wl_nil ?_
  refine nx_then ?_
  refine ws_seq ?_
  refine ws_region ?_
  refine wl_x (ox_move rfl rfl) rfl rfl rfl ?_
  refine wl_x (ox_conv rfl Try.underlying37 Try.underlying3 rfl (wrap_i64 (by omega))) rfl rfl rfl ?_
  refine wl_x (ox_assign rfl rfl) rfl rfl rfl ?_
  refine wl_nil ?_
  refine nx_then ?_
  refine ws_seq ?_
  refine ws_region ?_
  refine wl_x (ox_assign rfl rfl) rfl rfl rfl ?_
  refine wl_nil ?_
  refine nx_then ?_
  refine ws_seq ?_
  refine ws_region ?_
  refine wl_alloc [.bool false, .bool false, .bool false] rfl el38 rfl rfl rfl rfl (fun g9 => ?_)
  refine wl_nil ?_
  refine nx_then ?_
  refine ws_seq ?_
  refine ws_seq ?_
  refine ws_region ?_
  refine wl_x (ox_assign rfl rfl) rfl rfl rfl ?_
  refine wl_nil ?_
  refine nx_then ?_
  refine ws_block ?_
  refine ws_emp ?_
  refine ws_loop (fun n s h' ms' => ∃ (i : Nat) (v : Value) (m : Hp), n = a.length - i ∧ s = [(5, .bool true), (6, va), (7, .int .i64 k), (8, v), (9, .pointer (some ⟨g9, 0, none⟩)), (10, .int .i64 i)] ∧ h1 = h' ∧ ms' = [m, Blk g9 38 (hL (a.take i))] ∧ i ≤ a.length ∧ OwnL cBr 6 40 m v ((a.take i).map (Br.sh k)))
    (a.length - 0) _ ⟨0, _, _, rfl, rfl, rfl, rfl, by omega, OwnL.nil cBr_len⟩ (by repeat (first | exact trivial | refine ⟨rfl, ?_⟩)) ?_
  rintro n s h' ms' ⟨i, v, m, rfl, rfl, rfl, rfl, hi, hO⟩
  refine ws_seq ?_
  refine ws_seq ?_
  refine ws_region ?_
  refine wl_x (ox_move rfl rfl) rfl rfl rfl ?_
  refine wl_x (ox_move rfl rfl) rfl rfl rfl ?_
  first | refine wl_x (ox_len (ty := 25) rfl Try.underlying25 rfl) rfl rfl rfl ?_ | refine wl_x (ox_lenR hRa.rd.any rfl Try.underlying25 rfl) rfl rfl rfl ?_
  refine wl_x (ox_lss rfl rfl rfl) rfl rfl rfl ?_
  refine wl_nil ?_
  refine nx_then ?_
  refine ws_if rfl (fun hlt => ?_) (fun hlt => ?_)
  · skip
    have hia : i < a.length := by omega
    have hta := take_succ_map (Br.sh k) a i hia
    have hts : a.take (i + 1) = a.take i ++ [a[i]] := List.take_succ_eq_append_getElem hia
    obtain ⟨x1, x2, x3, x4, x5, x6⟩ := ba _ (List.getElem_mem hia)
    have hml : ((a.take i).map (Br.sh k)).length ≤ 14 := by simp; omega
    obtain ⟨j, hjd⟩ : ∃ j : Nat, a[i].dim = j := ⟨a[i].dim.toNat, by omega⟩
    have hj : j < 3 := by omega
    refine ws_skip ?_
    refine nx_then ?_
    refine ws_seq ?_
    refine ws_block ?_
    refine ws_seq ?_
    refine ws_region ?_
    refine wl_x (ox_move rfl rfl) rfl rfl rfl ?_
    refine wl_x (ox_move rfl rfl) rfl rfl rfl ?_
    first | refine wl_x (ox_index _ rfl Try.underlying25 el40 rfl rfl rfl (by omega)) rfl rfl rfl ?_ | refine wl_x (ox_indexR _ hRa.rd.any rfl Try.underlying25 el40 rfl rfl rfl (by omega)) rfl rfl rfl ?_
    refine wl_x (ox_loadG rfl Try.underlying40 rfl el40 rfl rfl (by first | exact hRa.any.seg hia)) rfl rfl rfl ?_
    refine wl_alloc [.int .i64 0, .int .i64 0, .int .i64 0, .bool false, .int .i64 0, .int .i64 0] rfl el40 rfl rfl rfl rfl (fun g11 => ?_)
    first | refine wl_storeAll 0 [_, _, _, _, _, _] rfl el40 rfl rfl rfl (by first | (simp [Value.oneCell']; done) | (simp [(hRa.rd.any).one]; done) | simp [Value.oneCell', (hRa.rd.any).one]) rfl rfl rfl rfl rfl ?_ | refine wl_storeAll 1 [_, _, _, _, _, _] rfl el40 rfl rfl rfl (by first | (simp [Value.oneCell']; done) | (simp [(hRa.rd.any).one]; done) | simp [Value.oneCell', (hRa.rd.any).one]) rfl rfl rfl rfl rfl ?_ | refine wl_storeAll 2 [_, _, _, _, _, _] rfl el40 rfl rfl rfl (by first | (simp [Value.oneCell']; done) | (simp [(hRa.rd.any).one]; done) | simp [Value.oneCell', (hRa.rd.any).one]) rfl rfl rfl rfl rfl ?_ | refine wl_storeAll 3 [_, _, _, _, _, _] rfl el40 rfl rfl rfl (by first | (simp [Value.oneCell']; done) | (simp [(hRa.rd.any).one]; done) | simp [Value.oneCell', (hRa.rd.any).one]) rfl rfl rfl rfl rfl ?_ | refine wl_storeAll 4 [_, _, _, _, _, _] rfl el40 rfl rfl rfl (by first | (simp [Value.oneCell']; done) | (simp [(hRa.rd.any).one]; done) | simp [Value.oneCell', (hRa.rd.any).one]) rfl rfl rfl rfl rfl ?_
    refine wl_nil ?_
    refine nx_then ?_
    refine ws_seq ?_
    refine ws_region ?_
    refine wl_x (ox_fieldF fd40_1 rfl rfl) rfl rfl rfl ?_
    refine wl_x (ox_load rfl Try.underlying3 rfl rfl (by first | exact Cell.blk 0 rfl rfl | exact Cell.blk 1 rfl rfl | exact Cell.blk 2 rfl rfl | exact Cell.blk 3 rfl rfl | exact Cell.blk 4 rfl rfl)) rfl rfl rfl ?_
    refine wl_x (ox_move rfl rfl) rfl rfl rfl ?_
    refine wl_x (ox_add rfl rfl rfl (by omega)) rfl rfl rfl ?_
    refine wl_x (ox_fieldF fd40_1 rfl rfl) rfl rfl rfl ?_
    first | refine wl_storeAt 0 _ rfl el3 rfl rfl (by first | rfl | exact Rd.one ‹_› | exact (RdL.rd ‹_›).one) rfl rfl (by first | decide | (simp; done) | exact of_decide_eq_true rfl | (simp; omega)) rfl rfl ?_ | refine wl_storeAt 1 _ rfl el3 rfl rfl (by first | rfl | exact Rd.one ‹_› | exact (RdL.rd ‹_›).one) rfl rfl (by first | decide | (simp; done) | exact of_decide_eq_true rfl | (simp; omega)) rfl rfl ?_ | refine wl_storeAt 2 _ rfl el3 rfl rfl (by first | rfl | exact Rd.one ‹_› | exact (RdL.rd ‹_›).one) rfl rfl (by first | decide | (simp; done) | exact of_decide_eq_true rfl | (simp; omega)) rfl rfl ?_ | refine wl_storeAt 3 _ rfl el3 rfl rfl (by first | rfl | exact Rd.one ‹_› | exact (RdL.rd ‹_›).one) rfl rfl (by first | decide | (simp; done) | exact of_decide_eq_true rfl | (simp; omega)) rfl rfl ?_ | refine wl_storeAt 4 _ rfl el3 rfl rfl (by first | rfl | exact Rd.one ‹_› | exact (RdL.rd ‹_›).one) rfl rfl (by first | decide | (simp; done) | exact of_decide_eq_true rfl | (simp; omega)) rfl rfl ?_
    refine wl_nil ?_
    refine nx_then ?_
    refine ws_seq ?_
    refine ws_region ?_
    refine wl_x (ox_fieldF fd40_2 rfl rfl) rfl rfl rfl ?_
    refine wl_x (ox_load rfl Try.underlying3 rfl rfl (by first | exact Cell.blk 0 rfl rfl | exact Cell.blk 1 rfl rfl | exact Cell.blk 2 rfl rfl | exact Cell.blk 3 rfl rfl | exact Cell.blk 4 rfl rfl)) rfl rfl rfl ?_
    refine wl_x (ox_move rfl rfl) rfl rfl rfl ?_
    refine wl_x (ox_add rfl rfl rfl (by omega)) rfl rfl rfl ?_
    refine wl_x (ox_fieldF fd40_2 rfl rfl) rfl rfl rfl ?_
    first | refine wl_storeAt 0 _ rfl el3 rfl rfl (by first | rfl | exact Rd.one ‹_› | exact (RdL.rd ‹_›).one) rfl rfl (by first | decide | (simp; done) | exact of_decide_eq_true rfl | (simp; omega)) rfl rfl ?_ | refine wl_storeAt 1 _ rfl el3 rfl rfl (by first | rfl | exact Rd.one ‹_› | exact (RdL.rd ‹_›).one) rfl rfl (by first | decide | (simp; done) | exact of_decide_eq_true rfl | (simp; omega)) rfl rfl ?_ | refine wl_storeAt 2 _ rfl el3 rfl rfl (by first | rfl | exact Rd.one ‹_› | exact (RdL.rd ‹_›).one) rfl rfl (by first | decide | (simp; done) | exact of_decide_eq_true rfl | (simp; omega)) rfl rfl ?_ | refine wl_storeAt 3 _ rfl el3 rfl rfl (by first | rfl | exact Rd.one ‹_› | exact (RdL.rd ‹_›).one) rfl rfl (by first | decide | (simp; done) | exact of_decide_eq_true rfl | (simp; omega)) rfl rfl ?_ | refine wl_storeAt 4 _ rfl el3 rfl rfl (by first | rfl | exact Rd.one ‹_› | exact (RdL.rd ‹_›).one) rfl rfl (by first | decide | (simp; done) | exact of_decide_eq_true rfl | (simp; omega)) rfl rfl ?_
    refine wl_nil ?_
    refine nx_then ?_
    refine ws_seq ?_
    refine ws_draw 10 fol (by kernel_rfl) rfl ?_
    simp only [List.take_succ_cons, List.take_zero, List.drop_succ_cons, List.drop_zero, List.take_nil, List.drop_nil]
    refine wr_x (ox_fieldF fd40_0 rfl rfl) rfl rfl ?_
    refine wr_x (ox_load rfl Try.underlying3 rfl rfl (by first | exact Cell.blk 0 rfl rfl | exact Cell.blk 1 rfl rfl | exact Cell.blk 2 rfl rfl | exact Cell.blk 3 rfl rfl | exact Cell.blk 4 rfl rfl)) rfl rfl ?_
    refine wr_x (ox_fieldF fd40_0 rfl rfl) rfl rfl ?_
    refine wr_x (ox_load rfl Try.underlying3 rfl rfl (by first | exact Cell.blk 0 rfl rfl | exact Cell.blk 1 rfl rfl | exact Cell.blk 2 rfl rfl | exact Cell.blk 3 rfl rfl | exact Cell.blk 4 rfl rfl)) rfl rfl ?_
    refine wr_x (ox_indexA j rfl Try.underlying38 el4 rfl rfl hjd hj) rfl rfl ?_
    refine wr_x (ox_load rfl Try.underlying4 rfl rfl (cell_at 2 rfl (hL_get _ hj))) rfl rfl ?_
    refine wr_x (ox_move rfl rfl) rfl rfl ?_
    refine wr_splitb (t := 46) rfl (fun hB => ?_) (fun hB => ?_)
    · skip
      refine wr_skip rfl rfl rfl rfl rfl ?_
      refine wr_skip rfl rfl rfl rfl rfl ?_
      refine wr_x (ox_pick_t rfl rfl rfl) rfl rfl ?_
      refine wr_nil ?_
      refine wl_x (ox_indexA j rfl Try.underlying38 el4 rfl rfl hjd hj) rfl rfl rfl ?_
      refine wl_storeAt 2 (j * 1) rfl el4 rfl rfl rfl rfl rfl (by simp [hL]; omega) rfl rfl ?_
      refine wl_nil ?_
      refine nx_then ?_
      refine ws_region ?_
      refine wl_x (ox_move rfl rfl) rfl rfl rfl ?_
      refine wl_x (ox_loadG rfl Try.underlying40 rfl el40 rfl rfl (by first | exact Seg.blk 0 rfl | exact Seg.blk 1 rfl | exact Seg.blk 2 rfl | exact Seg.blk 3 rfl | exact Seg.blk 4 rfl | exact hRa.any.seg hia)) rfl rfl rfl ?_
      refine wl_buildSlice1 [_, _, _, _, _, _] rfl Try.underlying25 el40 rfl (by first | rfl | exact (hRa.rd.any).cells | exact Rd.cells ‹_› | exact (RdL.rd ‹_›).cells) rfl rfl (by omega) rfl rfl rfl (fun g53 => ?_)
      refine wl_appendL 2 hO (RdL.one cBr_len (x := Br.sh k a[i]) (List.Mem.head _) rfl) rfl Try.underlying25 el40 rfl (by omega) rfl rfl rfl cBr_one (by simp; omega) (by simp; omega) rfl rfl rfl (fun v' m' hO' => ?_)
      refine wl_x (ox_assign rfl rfl) rfl rfl rfl ?_
      refine wl_nil ?_
      refine nx_block ?_
      refine nx_then ?_
      refine ws_region ?_
      refine wl_x (ox_move rfl rfl) rfl rfl rfl ?_
      refine wl_x (ox_add rfl rfl rfl (by omega)) rfl rfl rfl ?_
      refine wl_x (ox_assign rfl rfl) rfl rfl rfl ?_
      refine wl_nil ?_
      refine nx_perm (ms' := [Blk g53 40 (cBr (Br.sh k a[i])), Blk g11 40 (cBr (Br.sh k a[i])), m', Blk g9 38 ((hL (a.take i)).set (j * 1) (.bool true))]) (by exact List.Perm.refl _) (nx_drop (nx_drop ?_))
      refine nx_round (a.length - (i + 1)) _ (by omega) ⟨i + 1, v', m', rfl, rfl, rfl, by rw [Nat.mul_one, hL_set _ a[i] hj hjd (by simp [hB]), ← hts], by omega, by rw [hta]; exact hO'⟩ (by repeat (first | exact trivial | refine ⟨rfl, ?_⟩))
    · skip
      refine wr_gx (ox_fieldF fd40_3 rfl rfl) rfl rfl rfl rfl ?_
      refine wr_gx (ox_load rfl Try.underlying4 rfl rfl (by first | exact Cell.blk 0 rfl rfl | exact Cell.blk 1 rfl rfl | exact Cell.blk 2 rfl rfl | exact Cell.blk 3 rfl rfl | exact Cell.blk 4 rfl rfl)) rfl rfl rfl rfl ?_
      refine wr_x (ox_pick_f rfl rfl rfl) rfl rfl ?_
      refine wr_nil ?_
      refine wl_x (ox_indexA j rfl Try.underlying38 el4 rfl rfl hjd hj) rfl rfl rfl ?_
      refine wl_storeAt 2 (j * 1) rfl el4 rfl rfl rfl rfl rfl (by simp [hL]; omega) rfl rfl ?_
      refine wl_nil ?_
      refine nx_then ?_
      refine ws_region ?_
      refine wl_x (ox_move rfl rfl) rfl rfl rfl ?_
      refine wl_x (ox_loadG rfl Try.underlying40 rfl el40 rfl rfl (by first | exact Seg.blk 0 rfl | exact Seg.blk 1 rfl | exact Seg.blk 2 rfl | exact Seg.blk 3 rfl | exact Seg.blk 4 rfl | exact hRa.any.seg hia)) rfl rfl rfl ?_
      refine wl_buildSlice1 [_, _, _, _, _, _] rfl Try.underlying25 el40 rfl (by first | rfl | exact (hRa.rd.any).cells | exact Rd.cells ‹_› | exact (RdL.rd ‹_›).cells) rfl rfl (by omega) rfl rfl rfl (fun g53 => ?_)
      refine wl_appendL 2 hO (RdL.one cBr_len (x := Br.sh k a[i]) (List.Mem.head _) rfl) rfl Try.underlying25 el40 rfl (by omega) rfl rfl rfl cBr_one (by simp; omega) (by simp; omega) rfl rfl rfl (fun v' m' hO' => ?_)
      refine wl_x (ox_assign rfl rfl) rfl rfl rfl ?_
      refine wl_nil ?_
      refine nx_block ?_
      refine nx_then ?_
      refine ws_region ?_
      refine wl_x (ox_move rfl rfl) rfl rfl rfl ?_
      refine wl_x (ox_add rfl rfl rfl (by omega)) rfl rfl rfl ?_
      refine wl_x (ox_assign rfl rfl) rfl rfl rfl ?_
      refine wl_nil ?_
      refine nx_perm (ms' := [Blk g53 40 (cBr (Br.sh k a[i])), Blk g11 40 (cBr (Br.sh k a[i])), m', Blk g9 38 ((hL (a.take i)).set (j * 1) (.bool a[i].opn))]) (by exact List.Perm.refl _) (nx_drop (nx_drop ?_))
      refine nx_round (a.length - (i + 1)) _ (by omega) ⟨i + 1, v', m', rfl, rfl, rfl, by rw [Nat.mul_one, hL_set _ a[i] hj hjd (by simp [hB]), ← hts], by omega, by rw [hta]; exact hO'⟩ (by repeat (first | exact trivial | refine ⟨rfl, ?_⟩))
  · skip
    have hia : i = a.length := by omega
    rw [List.take_of_length_le (by omega)] at hO ⊢
    have hB : ∀ x ∈ a, BOk x := fun x hx => (ba x hx).ok (by omega)
    have hS : ∀ x ∈ a.map (Br.sh k), BOk x := fun x hx => by
      obtain ⟨b, hb, rfl⟩ := List.mem_map.1 hx
      obtain ⟨x1, x2, x3, x4, x5, x6⟩ := ba b hb
      exact ⟨by show _ ≤ b.birth + k; omega, by show b.birth + k ≤ _; omega, by show _ ≤ b.death + k; omega, by show b.death + k ≤ _; omega⟩
    have hsl : (a.map (Br.sh k)).length = a.length := by simp
    refine ws_exit ?_
    refine nx_then_exit ?_
    refine nx_then_exit ?_
    refine nx_block_exit ?_
    refine nx_then ?_
    refine ws_freezeL hO (fun h2 l2 hRs => ?_)
    have hRa := hRa.up l2
    refine ws_seq ?_
    refine ws_seq ?_
    refine ws_region ?_
    refine wl_x (ox_assign rfl rfl) rfl rfl rfl ?_
    refine wl_nil ?_
    refine nx_then ?_
    refine ws_block ?_
    refine ws_loop (fun n s h' ms' => ∃ (d : Nat), n = 3 - d ∧ s = [(5, .bool true), (6, va), (7, .int .i64 k), (8, v), (9, .pointer (some ⟨g9, 0, none⟩)), (12, .int .i64 d)] ∧ h2 = h' ∧ ms' = [Blk g9 38 (hL a)] ∧ d ≤ 3)
      (3 - 0) _ ⟨0, rfl, rfl, rfl, rfl, by omega⟩ (by repeat (first | exact trivial | refine ⟨rfl, ?_⟩)) ?_
    rintro n s h' ms' ⟨d, rfl, rfl, rfl, rfl, hd⟩
    refine ws_seq ?_
    refine ws_seq ?_
    refine ws_region ?_
    refine wl_x (ox_move rfl rfl) rfl rfl rfl ?_
    refine wl_x (ox_lss rfl rfl rfl) rfl rfl rfl ?_
    refine wl_nil ?_
    refine nx_then ?_
    refine ws_if rfl (fun hlt => ?_) (fun hlt => ?_)
    · skip
      have hd3 : d < 3 := by omega
      obtain ⟨s1, s2, s3⟩ := sh_dist k d a
      have s3 := fun h => s3 (hasO_births (d := d) (l := a) h)
      have s4 := (dist2_bd d hB hS).1
      have hik : iabs k = max k (-k) := rfl
      refine ws_skip ?_
      refine nx_then ?_
      refine ws_seq ?_
      refine ws_block ?_
      refine ws_seq ?_
      refine ws_region ?_
      refine wl_x (ox_move rfl rfl) rfl rfl rfl ?_
      refine wl_x (ox_move rfl rfl) rfl rfl rfl ?_
      refine wl_x (ox_move rfl rfl) rfl rfl rfl ?_
      refine wl_x (ox_call rfl Try.call12 rfl (distance_v a (a.map (Br.sh k)) va v d h2 hRa hRs (by omega) (by omega) hB hS _)) rfl rfl rfl ?_
      rw [s1]
      refine wl_x (ox_move rfl rfl) rfl rfl rfl ?_
      refine wl_x (ox_extract rfl rfl rfl) rfl rfl rfl ?_
      refine wl_x (ox_extract rfl rfl rfl) rfl rfl rfl ?_
      refine wl_x (ox_assign rfl rfl) rfl rfl rfl ?_
      refine wl_x (ox_assign rfl rfl) rfl rfl rfl ?_
      refine wl_nil ?_
      refine nx_then ?_
      refine ws_seq ?_
      refine ws_region ?_
      refine wl_x (ox_move rfl rfl) rfl rfl rfl ?_
      refine wl_x (ox_not rfl rfl) rfl rfl rfl ?_
      refine wl_x (ox_move rfl rfl) rfl rfl rfl ?_
      refine wl_splitb (t := 68) rfl (fun hz => ?_) (fun hz => ?_)
      · skip
        cases hz
      · skip
        refine wl_gx (ox_move rfl rfl) rfl rfl rfl rfl rfl rfl ?_
        refine wl_gx (ox_move rfl rfl) rfl rfl rfl rfl rfl rfl ?_
        refine wl_gx (ox_move rfl rfl) rfl rfl rfl rfl rfl rfl ?_
        refine wl_gx (ox_neg rfl rfl (by omega)) rfl rfl rfl rfl rfl rfl ?_
        refine wl_gx (ox_max rfl rfl rfl) rfl rfl rfl rfl rfl rfl ?_
        refine wl_gx (ox_mul rfl rfl rfl (by omega)) rfl rfl rfl rfl rfl rfl ?_
        refine wl_gx (ox_gtr rfl rfl rfl) rfl rfl rfl rfl rfl rfl ?_
        refine wl_x (ox_pick_f rfl rfl rfl) rfl rfl rfl ?_
        refine wl_x (ox_move rfl rfl) rfl rfl rfl ?_
        refine wl_split (t := 77) rfl (fun hs => absurd hs (by omega)) (fun hs => ?_)
        refine wl_gx (ox_move rfl rfl) rfl rfl rfl rfl rfl rfl ?_
        refine wl_gx (ox_indexA _ rfl Try.underlying38 el4 rfl rfl rfl (by omega)) rfl rfl rfl rfl rfl rfl ?_
        refine wl_gx (ox_load rfl Try.underlying4 rfl rfl (cell_at 0 rfl (hL_get _ hd3))) rfl rfl rfl rfl rfl rfl ?_
        refine wl_gx (ox_move rfl rfl) rfl rfl rfl rfl rfl rfl ?_
        refine wl_splitb (t := 81) rfl (fun hh => ?_) (fun hh => ?_)
        · skip
          have s5 := s3 hh
          refine wl_gx (ox_move rfl rfl) rfl rfl rfl rfl rfl rfl ?_
          refine wl_gx (ox_move rfl rfl) rfl rfl rfl rfl rfl rfl ?_
          refine wl_gx (ox_move rfl rfl) rfl rfl rfl rfl rfl rfl ?_
          refine wl_gx (ox_neg rfl rfl (by omega)) rfl rfl rfl rfl rfl rfl ?_
          refine wl_gx (ox_max rfl rfl rfl) rfl rfl rfl rfl rfl rfl ?_
          refine wl_gx (ox_mul rfl rfl rfl (by omega)) rfl rfl rfl rfl rfl rfl ?_
          refine wl_gx (ox_nei rfl rfl rfl) rfl rfl rfl rfl rfl rfl ?_
          refine wl_gx (ox_pick_t rfl rfl rfl) rfl rfl rfl rfl rfl rfl ?_
          refine wl_x (ox_pick_f rfl rfl rfl) rfl rfl rfl ?_
          refine wl_nil ?_
          refine nx_then ?_
          refine ws_if rfl (fun hc => absurd hc (by omega)) (fun hc => ?_)
          refine ws_skip ?_
          refine nx_block ?_
          refine nx_then ?_
          refine ws_region ?_
          refine wl_x (ox_move rfl rfl) rfl rfl rfl ?_
          refine wl_x (ox_add rfl rfl rfl (by omega)) rfl rfl rfl ?_
          refine wl_x (ox_assign rfl rfl) rfl rfl rfl ?_
          refine wl_nil ?_
          refine nx_round (3 - (d + 1)) _ (by omega) ⟨d + 1, rfl, rfl, rfl, rfl, by omega⟩ (by repeat (first | exact trivial | refine ⟨rfl, ?_⟩))
        · skip
          refine wl_skip rfl rfl rfl rfl rfl rfl rfl ?_
          refine wl_skip rfl rfl rfl rfl rfl rfl rfl ?_
          refine wl_skip rfl rfl rfl rfl rfl rfl rfl ?_
          refine wl_skip rfl rfl rfl rfl rfl rfl rfl ?_
          refine wl_skip rfl rfl rfl rfl rfl rfl rfl ?_
          refine wl_skip rfl rfl rfl rfl rfl rfl rfl ?_
          refine wl_skip rfl rfl rfl rfl rfl rfl rfl ?_
          refine wl_gx (ox_pick_f rfl rfl rfl) rfl rfl rfl rfl rfl rfl ?_
          refine wl_x (ox_pick_f rfl rfl rfl) rfl rfl rfl ?_
          refine wl_nil ?_
          refine nx_then ?_
          refine ws_cond_f rfl ?_
          refine ws_skip ?_
          refine nx_block ?_
          refine nx_then ?_
          refine ws_region ?_
          refine wl_x (ox_move rfl rfl) rfl rfl rfl ?_
          refine wl_x (ox_add rfl rfl rfl (by omega)) rfl rfl rfl ?_
          refine wl_x (ox_assign rfl rfl) rfl rfl rfl ?_
          refine wl_nil ?_
          refine nx_round (3 - (d + 1)) _ (by omega) ⟨d + 1, rfl, rfl, rfl, rfl, by omega⟩ (by repeat (first | exact trivial | refine ⟨rfl, ?_⟩))
    · skip
      refine ws_exit ?_
      refine nx_then_exit ?_
      refine nx_then_exit ?_
      refine nx_block_exit ?_
      refine nx_then ?_
      refine ws_seq ?_
      refine ws_region ?_
      refine wl_x (ox_move rfl rfl) rfl rfl rfl ?_
      refine wl_x (ox_assign rfl rfl) rfl rfl rfl ?_
      refine wl_nil ?_
      refine nx_then ?_
      refine ws_ret ?_
      exact nx_ret1 rfl rfl (rfl)
end Go.Proofs.Ythdkhnjnhhofgaa

/- Walks: the least cost of all matchings. -/
set_option linter.unusedSimpArgs false
set_option linter.unusedVariables false
set_option maxRecDepth 100000
namespace Go.Proofs.Ythdkhnjnhhofgaa
open Go.Eng Go.RowKit Go.Kuhn

abbrev Duo := Int × Int
def cU (t : Duo) : List Value := [.int .u8 t.1, .int .u8 t.2]
theorem cU_len : ∀ b, (cU b).length = 2 := fun _ => rfl
structure UOk (t : Duo) : Prop where
  a : 0 ≤ t.1 ∧ t.1 ≤ 255
  b : 0 ≤ t.2 ∧ t.2 ≤ 255
def short1 (t : Duo) : Br := ⟨1, t.1 % 30, t.1 % 30 + 1 + t.2 % 30, false, 0, 0⟩
def shortL (l : List Duo) : List Br := (l.take 4).map short1
theorem short_ok (l : List Duo) (vl : Value) (h : Hp) (hR : RdL cU 2 h [] vl l) (hA : ∀ t ∈ l, UOk t) :
    FnT Try.prog 14 #[vl] h [] (fun r h' ms' => ms' = [] ∧ RdL cBr 6 h' [] r (shortL l)) := by
  have hl := hR.len_le
  refine fn_enter Try.func14 Try.ntmps14 rfl rfl (fun w0 hw0 => ?_)
  simp only [argS]
  refine ws_seq ?_
  refine ws_region ?_
  refine wl_x (ox_assign rfl rfl) rfl rfl rfl ?_
  refine wl_nil ?_
  refine nx_then ?_
  refine ws_seq ?_
  refine ws_region ?_
  refine wl_x (ox_assign rfl rfl) rfl rfl rfl ?_
  refine wl_nil ?_
  refine nx_then ?_
  refine ws_seq ?_
  refine ws_seq ?_
  refine ws_region ?_
  refine wl_x (ox_assign rfl rfl) rfl rfl rfl ?_
  refine wl_nil ?_
  refine nx_then ?_
  refine ws_block ?_
  refine ws_emp ?_
  refine ws_loop (fun n s h' ms' => ∃ (k : Nat) (v : Value) (m : Hp), n = l.length - k ∧ s = [(0, vl), (3, v), (4, .int .i64 k)] ∧ h = h' ∧ ms' = [m] ∧ k ≤ l.length ∧ k ≤ 4 ∧ OwnL cBr 6 40 m v ((l.take k).map short1))
    (l.length - 0) _ ⟨0, _, _, rfl, rfl, rfl, rfl, by omega, by omega, OwnL.nil cBr_len⟩ (by repeat (first | exact trivial | refine ⟨rfl, ?_⟩)) ?_
  rintro n s h' ms' ⟨k, v, m, rfl, rfl, rfl, rfl, hk, hk4, hO⟩
  refine ws_seq ?_
  refine ws_seq ?_
  refine ws_region ?_
  refine wl_x (ox_move rfl rfl) rfl rfl rfl ?_
  refine wl_x (ox_move rfl rfl) rfl rfl rfl ?_
  first | refine wl_x (ox_len (ty := 32) rfl Try.underlying32 rfl) rfl rfl rfl ?_ | refine wl_x (ox_lenR hR.rd.any rfl Try.underlying32 rfl) rfl rfl rfl ?_
  refine wl_x (ox_lss rfl rfl rfl) rfl rfl rfl ?_
  refine wl_x (ox_move rfl rfl) rfl rfl rfl ?_
  refine wl_split (t := 9) rfl (fun hlt => ?_) (fun hlt => ?_)
  · skip
    have hkl : k < l.length := by omega
    have hts := take_succ_map short1 l k hkl
    obtain ⟨⟨a1, a2⟩, b1, b2⟩ := hA _ (List.getElem_mem hkl)
    have hml : ((l.take k).map short1).length = k := by simp; omega
    refine wl_gx (ox_move rfl rfl) rfl rfl rfl rfl rfl rfl ?_
    refine wl_gx (ox_lss rfl rfl rfl) rfl rfl rfl rfl rfl rfl ?_
    refine wl_x (ox_pick_t rfl rfl rfl) rfl rfl rfl ?_
    refine wl_nil ?_
    refine nx_then ?_
    refine ws_if rfl (fun h14 => ?_) (fun h14 => ?_)
    · skip
      refine ws_skip ?_
      refine nx_then ?_
      refine ws_seq ?_
      refine ws_block ?_
      refine ws_drawP 24 [true] fol (by kernel_rfl) (by kernel_rfl) (by kernel_rfl) ?_
      refine pz_x rfl rfl rfl rfl (px_move rfl rfl) ?_
      refine ⟨rfl, ?_⟩
      simp only [zapL, zap, List.cons_append, List.nil_append, List.take_succ_cons, List.take_zero, List.drop_succ_cons, List.drop_zero, List.take_nil, List.drop_nil]
      refine wr_z rfl rfl rfl ?_
      refine wr_x (ox_move rfl rfl) rfl rfl ?_
      refine wr_x (ox_move rfl rfl) rfl rfl ?_
      first | refine wr_x (ox_index _ rfl Try.underlying32 el63 rfl rfl rfl (by omega)) rfl rfl ?_ | refine wr_x (ox_indexR _ hR.rd.any rfl Try.underlying32 el63 rfl rfl rfl (by omega)) rfl rfl ?_
      refine wr_x (ox_indexA 0 rfl Try.underlying63 el5 rfl rfl rfl (by omega)) rfl rfl ?_
      refine wr_x (ox_load rfl Try.underlying5 rfl rfl (by first | exact hR.any.cell hkl rfl)) rfl rfl ?_
      first | refine wr_x (ox_remP rfl rfl rfl (by omega) (by omega)) rfl rfl ?_ | refine wr_x (ox_rem rfl rfl rfl (by omega)) rfl rfl ?_
      refine wr_x (ox_conv rfl Try.underlying5 Try.underlying3 rfl (wrap_i64 (by omega))) rfl rfl ?_
      refine wr_x (ox_move rfl rfl) rfl rfl ?_
      refine wr_x (ox_move rfl rfl) rfl rfl ?_
      first | refine wr_x (ox_index _ rfl Try.underlying32 el63 rfl rfl rfl (by omega)) rfl rfl ?_ | refine wr_x (ox_indexR _ hR.rd.any rfl Try.underlying32 el63 rfl rfl rfl (by omega)) rfl rfl ?_
      refine wr_x (ox_indexA 0 rfl Try.underlying63 el5 rfl rfl rfl (by omega)) rfl rfl ?_
      refine wr_x (ox_load rfl Try.underlying5 rfl rfl (by first | exact hR.any.cell hkl rfl)) rfl rfl ?_
      first | refine wr_x (ox_remP rfl rfl rfl (by omega) (by omega)) rfl rfl ?_ | refine wr_x (ox_rem rfl rfl rfl (by omega)) rfl rfl ?_
      refine wr_x (ox_conv rfl Try.underlying5 Try.underlying3 rfl (wrap_i64 (by omega))) rfl rfl ?_
      refine wr_x (ox_add rfl rfl rfl (by omega)) rfl rfl ?_
      refine wr_x (ox_move rfl rfl) rfl rfl ?_
      refine wr_x (ox_move rfl rfl) rfl rfl ?_
      first | refine wr_x (ox_index _ rfl Try.underlying32 el63 rfl rfl rfl (by omega)) rfl rfl ?_ | refine wr_x (ox_indexR _ hR.rd.any rfl Try.underlying32 el63 rfl rfl rfl (by omega)) rfl rfl ?_
      refine wr_x (ox_indexA 1 rfl Try.underlying63 el5 rfl rfl rfl (by omega)) rfl rfl ?_
      refine wr_x (ox_load rfl Try.underlying5 rfl rfl (by first | exact hR.any.cell hkl rfl)) rfl rfl ?_
      first | refine wr_x (ox_remP rfl rfl rfl (by omega) (by omega)) rfl rfl ?_ | refine wr_x (ox_rem rfl rfl rfl (by omega)) rfl rfl ?_
      refine wr_x (ox_conv rfl Try.underlying5 Try.underlying3 rfl (wrap_i64 (by omega))) rfl rfl ?_
      refine wr_x (ox_add rfl rfl rfl (by omega)) rfl rfl ?_
      refine wr_nil ?_
      refine wl_x (ox_call rfl Try.call22 rfl (bar_ok _ _ _ _)) rfl rfl rfl ?_
      refine wl_buildSlice1 [_, _, _, _, _, _] rfl Try.underlying25 el40 rfl (by first | rfl | exact (hR.rd.any).cells | exact Rd.cells ‹_› | exact (RdL.rd ‹_›).cells) rfl rfl (by omega) rfl rfl rfl (fun g40 => ?_)
      refine wl_appendL 1 hO (RdL.one cBr_len (x := short1 l[k]) (List.Mem.head _) rfl) rfl Try.underlying25 el40 rfl (by omega) rfl rfl rfl cBr_one (by simp; omega) (by simp; omega) rfl rfl rfl (fun v' m' hO' => ?_)
      refine wl_x (ox_assign rfl rfl) rfl rfl rfl ?_
      refine wl_nil ?_
      refine nx_q0 ?_
      refine nx_block ?_
      refine nx_then ?_
      refine ws_region ?_
      refine wl_x (ox_move rfl rfl) rfl rfl rfl ?_
      refine wl_x (ox_add rfl rfl rfl (by omega)) rfl rfl rfl ?_
      refine wl_x (ox_assign rfl rfl) rfl rfl rfl ?_
      refine wl_nil ?_
      refine nx_drop ?_
      refine nx_round (l.length - (k + 1)) _ (by omega) ⟨k + 1, v', m', rfl, rfl, rfl, rfl, by omega, by omega, by rw [hts]; exact hO'⟩ (by repeat (first | exact trivial | refine ⟨rfl, ?_⟩))
    · skip
      obtain rfl : k = 4 := by omega
      refine ws_exit ?_
      refine nx_then_exit ?_
      refine nx_then_exit ?_
      refine nx_block_exit ?_
      refine nx_then ?_
      refine ws_seq ?_
      refine ws_region ?_
      refine wl_x (ox_move rfl rfl) rfl rfl rfl ?_
      refine wl_x (ox_assign rfl rfl) rfl rfl rfl ?_
      refine wl_nil ?_
      refine nx_then ?_
      refine ws_ret ?_
      refine nx_freezeL hO (fun h' hle hR' => ?_)
      exact nx_ret1 rfl rfl (⟨rfl, hR'⟩)
  · skip
    have hkl : k = l.length := by omega
    have hmk : (l.take k).map short1 = shortL l := by unfold shortL; rw [List.take_of_length_le (show l.length ≤ k by omega), List.take_of_length_le (show l.length ≤ 4 by omega)]
    rw [hmk] at hO
    refine wl_skip rfl rfl rfl rfl rfl rfl rfl ?_
    refine wl_skip rfl rfl rfl rfl rfl rfl rfl ?_
    refine wl_x (ox_pick_f rfl rfl rfl) rfl rfl rfl ?_
    refine wl_nil ?_
    refine nx_then ?_
    refine ws_cond_f rfl ?_
    refine ws_exit ?_
    refine nx_then_exit ?_
    refine nx_then_exit ?_
    refine nx_block_exit ?_
    refine nx_then ?_
    refine ws_seq ?_
    refine ws_region ?_
    refine wl_x (ox_move rfl rfl) rfl rfl rfl ?_
    refine wl_x (ox_assign rfl rfl) rfl rfl rfl ?_
    refine wl_nil ?_
    refine nx_then ?_
    refine ws_ret ?_
    refine nx_freezeL hO (fun h' hle hR' => ?_)
    exact nx_ret1 rfl rfl (⟨rfl, hR'⟩)
end Go.Proofs.Ythdkhnjnhhofgaa
