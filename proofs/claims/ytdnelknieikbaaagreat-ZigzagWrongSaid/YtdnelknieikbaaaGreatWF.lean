/- A part of the proof. -/
import Derived.Test.YtdnelknieikbaaaGreatWE
set_option linter.unusedSimpArgs false
set_option linter.unusedVariables false
set_option maxRecDepth 100000
set_option maxHeartbeats 4000000
namespace Go.Proofs.YtdnelknieikbaaaGreat
open Go.Eng Go.RowKit Go.Lin
theorem Hk (n d : Nat) (u y : Nat → Int) : vec n u ++ vec d y = vec (n + d) (Ej n u y) := List.ext_getElem (by simp [vec]) fun i h1 h2 => by
 simp only [vec, List.getElem_append, List.length_map, List.length_range, List.getElem_map, List.getElem_range, Ej]
 split <;> rfl
theorem KW {h : Hp} {ms : List Hp} {g : Nat} {x : Value} {l : List Value} (hS : Seg h [] ⟨g, 0, none⟩ (x :: l)) : Seg h ms ((⟨g, 0, none⟩ : Addr).add 1) l := fun j u hu => by
 rw [A6]
 exact (Seg.all hS) (1 + j) u (by rw [Nat.add_comm]; exact hu) ms
theorem Oj (p : Int) (na e f N gx : Nat) (w : Nat → Nat → Int) (pl : Nat → Nat) (F : Nat → Nat → Int) (lv ev : Value) (h : Hp) (hp : IsP p) (hna : na ≤ 200) (he : e ≤ 200) (hf : f ≤ 200) (R : Go.Lin.Rows p (na + e) N w pl) (hG : Seg h [] ⟨gx, 0, none⟩ [.int .i64 p, lv]) (hL : RdV h lv N (na + e) w) (RA : RtM p f e F) (hA : RdL cI 1 h [] ev (mat f e F)) :
  FnT Tryz.prog 49 #[.agg #[.int .i64 na, .pointer (some ⟨gx, 0, none⟩)], .agg #[.bool false, .int .i64 p, .int .i64 f, .int .i64 e, ev]] h [] (fun r h' ms' => h.le h' ∧ ∃ (g' n' : Nat) (w' : Nat → Nat → Int) (pl' : Nat → Nat) (lv' : Value), r = .agg #[.int .i64 na, .pointer (some ⟨g', 0, none⟩)] ∧ ms' = [AX g' 93 [.int .i64 p, lv']] ∧ RdV h' lv' n' (na + f) w' ∧ Go.Lin.Rows p (na + f) n' w' pl' ∧ Sp p (na + f) n' w' N fun m => Ej na (w m) (D2 p e F fun j => w m (na + j))) := by
 have hp1 := hp.1
 have hp2 := hp.2.1
 have hnd := E3 R
 have o1 := hA.rd.one
 obtain ⟨vs, hvs, hLv, hLs⟩ := hL
 have hLn : ∀ h', h.le h' → Rd h' [] lv 1 N (vs.flatMap cV) := fun h' l => by have := (hLv.up l).rd; rwa [hvs] at this
 refine Av Tryz.func49 Tryz.ntmps49 rfl rfl (fun w0 hw0 => ?_)
 simp only [A4]
 refine Ax ?_
 refine AS [_, _] rfl rfl (by rfl) rfl rfl rfl (fun g2 => ?_)
 refine AS [_, _, _, _, _] rfl rfl (by rfl) rfl rfl rfl (fun g3 => ?_)
 refine BZ [.int .i64 0, .pointer none] rfl Dv rfl rfl (fun g4 => Aq (By 1 rfl fun h1 l1 hS3 => (By 1 rfl fun h2 l2 hS2 => ?_)))
 have l02 := Hp.le_trans l1 l2
 have hS3 := hS3.le l2
 have hB3 := Seg.all hS3
 have hB30 := hB3 0 _ rfl
 have hB2 := Seg.all hS2
 have hB20 := hB2 0 _ rfl
 have hX := Seg.all (hG.le l02)
 have hX0 := hX 0 _ rfl
 refine Bv (fun sl hh ms' => ∃ g5 g28 : Nat, sl = [(2, .pointer (some ⟨g2, 0, none⟩)), (3, .pointer (some ⟨g3, 0, none⟩)), (4, .pointer (some ⟨g4, 0, none⟩)), (5, .pointer (some ⟨g5, 0, none⟩))] ∧ h2 = hh ∧ ms' = [AX g5 95 [.int .i64 na, .pointer (some ⟨g28, 0, none⟩)], AX g28 93 [.int .i64 p, .slice none 0 0], AX g4 95 [.int .i64 0, .pointer none]]) ?_ (fun s h ms hI => ?_)
 ·refine AW (n := 12) (bs := [true, true, true, true, true, true, true, true, false, false, false, false]) [true, true, true, true, true, true, true, true] Cd (by kernel_rfl) (by kernel_rfl) rfl rfl (QF D1 rfl (Qp rfl (AM rfl Tryz.underlying3 rfl rfl (hB20 _)) (QF CQ rfl (Qp rfl (AM rfl Tryz.underlying91 rfl rfl (hB2 _ _ rfl _)) (Qq rfl (QF Eo rfl (Qp rfl (AM rfl Tryz.underlying3 rfl rfl (hX0 _)) ?_)))))))
  refine Qp rfl (AT PK [.int .i64 0, .slice none 0 0] [(0, _)] [_, _] rfl RD rfl rfl (by repeat (first | exact trivial | refine ⟨⟨rfl, rfl, rfl⟩, ?_⟩)) rfl) ?_
  unfold CD
  simp only [List.cons_append, List.nil_append]
  refine A2 [8, 10] (by kernel_rfl) rfl ?_
  refine Az rfl ?_ ?_
  ·refine AS [_, _] rfl rfl (by rfl) rfl rfl rfl (fun g28 => ?_)
   refine Qw ?_
   refine An 9 29 (by kernel_rfl) rfl (Hp.le_refl _) rfl (AT Oi [.int .i64 0, .pointer none] [(0, _), (1, _)] [_, _] rfl Dv rfl rfl (by repeat (first | exact trivial | refine ⟨⟨rfl, rfl, rfl⟩, ?_⟩)) rfl) ?_
   refine Qo 10 rfl (BZ [.int .i64 0, .pointer none] rfl Dv rfl rfl (fun g5 => Qw (Qo 11 rfl ?_)))
   refine Sa 0 [_, _] Dv rfl (by simp [Value.oneCell']) ?_
   refine Qw (Qe ?_)
   exact AA _ ⟨_, _, rfl, rfl, rfl⟩ Qs
  refine Az rfl ?_ ?_
  ·refine BZ [.int .i64 0, .pointer none] rfl Dv rfl rfl (fun g5 => Qw (Qo 8 rfl ?_))
   refine AS [_, _] rfl rfl (by rfl) rfl rfl rfl (fun g28 => ?_)
   refine Qw ?_
   refine An 9 29 (by kernel_rfl) rfl (Hp.le_refl _) rfl (AT Oi [.int .i64 0, .pointer none] [(0, _), (1, _)] [_, _] rfl Dv rfl rfl (by repeat (first | exact trivial | refine ⟨⟨rfl, rfl, rfl⟩, ?_⟩)) rfl) ?_
   refine Qo 11 rfl ?_
   refine Sa 1 [_, _] Dv rfl (by simp [Value.oneCell']) ?_
   refine Qw (Qe ?_)
   exact A9 (AA _ ⟨_, _, rfl, rfl, rfl⟩ Qs)
  exact A3
 ·obtain ⟨g5, g28, rfl, rfl, rfl⟩ := hI
  refine AL fun h3 l3 hS5 => ?_
  have l03 := Hp.le_trans l02 l3
  have hS3 := hS3.le l3
  have hS2 := hS2.le l3
  have hB3 := Seg.all hS3
  have hB30 := hB3 0 _ rfl
  refine Ac (Ax (Qf EK rfl (Qx (AM rfl Tryz.underlying4 rfl rfl (hB30 _)) rfl (Qm rfl (Aq (AU rfl (Ac (Ax (Qm rfl (Aq (Ag ?_)))))))))))
  refine AD (fun q sl hh ms' => ∃ (m n' : Nat) (w' : Nat → Nat → Int) (pl' : Nat → Nat) (lw : Value), q = N - m ∧ sl = [(2, .pointer (some ⟨g2, 0, none⟩)), (3, .pointer (some ⟨g3, 0, none⟩)), (4, .pointer (some ⟨g4, 0, none⟩)), (5, .pointer (some ⟨g5, 0, none⟩)), (6, .int .i64 m)] ∧ h3.le hh ∧ ms' = [AX g28 93 [.int .i64 p, lw], AX g4 95 [.int .i64 0, .pointer none]] ∧ m ≤ N ∧ RdV hh lw n' (na + f) w' ∧ Go.Lin.Rows p (na + f) n' w' pl' ∧ Sp p (na + f) n' w' m fun m => Ej na (w m) (D2 p e F fun j => w m (na + j)))
   (N - 0) _ ⟨0, 0, fun _ _ => 0, fun _ => 0, _, rfl, rfl, Hp.le_refl _, rfl, by omega, GV, FO, Sp.start⟩ Qs ?_
  rintro q sl hh ms' ⟨m, n', w', pl', lw, rfl, rfl, lh, rfl, hm, hLw, Rw, S⟩
  have l0h := Hp.le_trans l03 lh
  have hB3 := Seg.all (hS3.le lh)
  have hB30 := hB3 0 _ rfl
  have hB2 := Seg.all (hS2.le lh)
  have hB20 := hB2 0 _ rfl
  have hB5 := Seg.all (hS5.le lh)
  have hB50 := hB5 0 _ rfl
  have hX := Seg.all (hG.le l0h)
  have hX0 := hX 0 _ rfl
  refine Ac (Ax (Qm rfl (Qf CQ rfl (Qx (AM rfl Tryz.underlying91 rfl rfl (hB2 _ _ rfl _)) rfl (Qm rfl (Qf C1 rfl (Qx (AM rfl Tryz.underlying62 rfl rfl (hX _ _ rfl _)) rfl (Qx (AJ (hLn _ l0h).any rfl Tryz.underlying62 rfl) rfl (Qm rfl (Aq ?_))))))))))
  refine AF rfl (fun hlt => ?_) (fun hlt => ?_)
  ·have hmN : m < N := by omega
   have hmv : m < vs.length := by omega
   have hRm := (hLs m hmv).up l0h
   have hvl := AQ (na + e) (w m)
   have hRn : Rd hh [] vs[m] 1 (na + e) ((vec (na + e) (w m)).flatMap cI) := by have := hRm.rd; rwa [hvl] at this
   have hV1 : RdL cI 1 hh [] (Ch 1 vs[m] 0 na) (vec na (w m)) := by
    have := hRm.sub_ (i := 0) (j := na) (by omega) (by omega)
    rw [Nat.sub_zero, FU (by omega)] at this
    rwa [BA (f := fun i => w m (0 + i)) (g := w m) (fun i _ => by rw [Nat.zero_add])] at this
   have hV2 : RdL cI 1 hh [] (Ch 1 vs[m] na (na + e)) (vec e fun j => w m (na + j)) := by
    have := hRm.sub_ (i := na) (j := na + e) (by omega) (by omega)
    rwa [Nat.add_sub_cancel_left, FU (Nat.le_refl _)] at this
   have hbm : ∀ i, i < e → 0 ≤ w m (na + i) ∧ w m (na + i) < p := fun i hi => R.bd m hmN _ (by omega)
   have hl1 := AQ na (w m)
   refine Ai (Ab (Ac (Ag (Ax (Qf CQ rfl (Qx (AM rfl Tryz.underlying91 rfl rfl (hB2 _ _ rfl _)) rfl (Qm rfl (Qf C1 rfl (Qx (AM rfl Tryz.underlying62 rfl rfl (hX _ _ rfl _)) rfl (Qm rfl (Qx (Ah (m) (hLn _ l0h).any rfl Tryz.underlying62 BN rfl rfl (by omega) (by omega)) rfl (Qx (AM rfl Tryz.underlying24 rfl rfl ((hLv.up l0h).any.cell0 hmv rfl)) rfl (Qm rfl (Aq (AW (n := 17) (bs := [true, true, false, true, true, true, true, false, true, true, true, true, true, true, false, false, false]) [true, true, false, true, true, true, true, false, true, true, true, true, true, true] Cd (by kernel_rfl) (by kernel_rfl) rfl rfl (QF CQ rfl (Qp rfl (AM rfl Tryz.underlying91 rfl rfl (hB5 _ _ rfl _)) (Qq rfl (QF D1 rfl (Qp rfl (AM rfl Tryz.underlying3 rfl rfl (hB20 _)) (Qp rfl (EA (na) hRn.any rfl Tryz.underlying24 A8 rfl rfl (by omega) (by omega)) (QF Ca rfl (Qp rfl (Du rfl Tryz.underlying42 rfl AI rfl rfl (KW (hS3.le lh))) (Qq rfl (QF D1 rfl (Qp rfl (AM rfl Tryz.underlying3 rfl rfl (hB20 _)) (Qp rfl (C3 (na) hRn.any rfl Tryz.underlying24 A8 rfl rfl (by omega) (by omega)) ?_)))))))))))))))))))))))))))
   unfold CD
   simp only [List.cons_append, List.nil_append]
   refine Qo 2 rfl ?_
   refine AZ [] [] [] rfl Tryz.underlying24 A8 rfl (by omega) (by kernel_rfl) (by repeat (first | exact trivial | refine ⟨⟨by first | rfl | exact (hRn.any).cells | exact Rd.cells ‹_› | exact (RdL.rd ‹_›).cells, rfl, rfl⟩, ?_⟩)) rfl rfl rfl rfl (fun g53 => ?_)
   refine Qw (Qo 7 rfl ?_)
   refine Bm 0 (ID g53 Br) hV1.any rfl Tryz.underlying24 A8 rfl (by omega) rfl rfl rfl Cv (by (try simp only [List.length_nil]); omega) (by (try simp only [List.length_nil]); omega) rfl rfl rfl (fun v58 m58 hO58 => ?_)
   rw [List.nil_append] at hO58
   refine Qw (Qo 14 rfl (E4 rfl Tryz.call83 rfl (Jo p f e F (fun j => w m (na + j)) ev _ hh RA hbm (hA.up l0h) hV2) rfl rfl rfl (fun vi h4 ms4 l4 hF => ?_)))
   obtain ⟨l4', mi, rfl, hOi⟩ := hF
   refine AH hOi fun h5 l5 hRi => ?_
   have lh5 := Hp.le_trans l4 l5
   have hl2 := AQ f (D2 p e F fun j => w m (na + j))
   refine Qa (Qo 15 rfl ?_)
   refine Bm 0 hO58 hRi.any rfl Tryz.underlying24 A8 rfl (by omega) rfl rfl rfl Cv (by (try simp only [List.length_nil]); omega) (by (try simp only [List.length_nil]); omega) rfl rfl rfl (fun v66 m66 hO66 => ?_)
   rw [Hk] at hO66
   refine AH hO66 fun h6 l6 hR66 => ?_
   have lh6 := Hp.le_trans l4 (Hp.le_trans l5 l6)
   refine Qa (Qo 16 rfl ?_)
   refine Bs (pre := [AX g28 93 [.int .i64 p, lw]]) rfl Tryz.call82 rfl (KE p (na + f) n' g28 (Ej na (w m) (D2 p e F fun j => w m (na + j))) w' pl' lw v66 h6 hp (by omega) Rw (hLw.up lh6) (Cy (fun i hi => by rw [BW hi]; exact R.bd m hmN i (by omega)) fun i hi => by rw [BG]; exact ⟨Int.emod_nonneg _ (by omega), Int.emod_lt_of_pos _ (by omega)⟩) hR66) rfl rfl rfl rfl (fun x7 h7 ms7 l7 hF => ?_)
   obtain ⟨l7', n2, w2, pl2, lw2, rfl, hL2, hR2, hS2'⟩ := hF
   have lh7 := Hp.le_trans lh6 l7
   refine Qa (Qe (Aj (Ab (Ad (Qm rfl (Qx (oA rfl) rfl (Qm rfl (Ak ?_))))))))
   exact Al (N - (m + 1)) _ (by omega) ⟨m + 1, n2, w2, pl2, lw2, rfl, rfl, Hp.le_trans lh (Hp.le_trans lh6 l7), rfl, by omega, hL2, hR2, S.next hS2'⟩ Qs
  ·obtain rfl : m = N := by omega
   refine Aw (Aa (Aa (Af (Ab (Ax (Qx (Du rfl Tryz.underlying95 rfl Dv rfl rfl (Seg.any (hS5.le lh))) rfl ?_))))))
   refine Sa 1 [_, _] Dv rfl (by simp [Value.oneCell']) ?_
   refine Aq (Ao (Ae ?_))
   exact Cl (vs := [_, _]) 1 rfl rfl Tryz.underlying95 rfl Dv rfl rfl (⟨l0h, g28, n', w', pl', lw, rfl, rfl, hLw, Rw, S⟩)
end Go.Proofs.YtdnelknieikbaaaGreat
namespace Go.Proofs.YtdnelknieikbaaaGreat
open Go.Eng Go.RowKit Go.Lin
variable {p : Int} {e f d na N : Nat} {V F w : Nat → Nat → Int}
theorem Jl (e n : Nat) (A B C : Nat → Int) : Ej (e + n) (Ej e A B) C = Ej e A (Ej n B C) := funext fun i => by
 unfold Ej
 by_cases h1 : i < e
 ·rw [if_pos h1, if_pos h1, if_pos (by omega)]
 ·rw [if_neg h1, if_neg h1]
  by_cases h2 : i < e + n
  ·rw [if_pos h2, if_pos (by omega)]
  ·rw [if_neg h2, if_neg (by omega)]; congr 1; omega
theorem Sw {nb no no' am : Nat} {wb wo wo' : Nat → Nat → Int} {pb : Nat → Nat} {v out : Nat → Int} (L : Less p (e + f) wb pb am v nb out) (h0 : ∀ i, i < e → out i = 0) (h : ∀ y, Spn p no' ty f wo' y ↔ Exw (Spn p no ty f wo) (fun i => out (e + i)) y) (y : Nat → Int) : Bwr p e f nb wb no' wo' y ↔ Exw (Bwr p e f nb wb no wo) v y := by
 obtain ⟨z, hz, ho⟩ := L.mem
 rw [UU h (fun i hi => Cg.of_eq (h0 i hi))]
 exact (Exw.unit (u := 1) (t := 1) (U8 p e f nb wb no wo) (VS hz) ho (fun i _ => Cg.of_eq (Int.one_mul _).symm) (Cg.refl _ _) y).symm
theorem JR {k : Nat} {W W' : (Nat → Int) → Prop} (S : ∀ y, W y ↔ Spn p k ty d V y) (h : ∀ y, W' y ↔ Exw W (V k) y) (y : Nat → Int) : W' y ↔ Spn p (k + 1) ty d V y := by
 rw [h, KN]
 exact Exw.congr S _ y
theorem Ua {wb wo : Nat → Nat → Int} (y : Nat → Int) : Bwr p e f 0 wb 0 wo y ↔ Spn p 0 ty (e + f) V y := by
 constructor
 ·rintro ⟨z, ⟨c, hc⟩, c', hc'⟩
  refine ⟨fun _ => 0, Cy (fun i hi => ?_) fun i hi => ?_⟩
  ·have := hc' i (by omega)
   simp only [BW hi] at this
   exact (Cg.of_eq (by omega)).trans this
  ·have h1 := hc' (e + i) (by omega)
   simp only [BG] at h1
   exact (Cg.of_eq (by omega)).trans ((h1.add (hc i hi)).trans (Cg.of_eq (Int.add_zero _)))
 ·rintro ⟨c, hc⟩
  have So := CR p 0 f ty wo
  exact ⟨fun _ => 0, So.zero, fun _ => 0, fun i hi => (Cg.of_eq (by unfold Ej; simp)).trans (hc i hi)⟩
def Vs (h : Hp) (d n : Nat) (es : List Value) (V : Nat → Nat → Int) : Prop := es.length = n ∧ ∀ t (ht : t < es.length), RdL cI 1 h [] es[t] (vec d (V t))
theorem Vs.up {h h' : Hp} {n : Nat} {es : List Value} (I : Vs h d n es V) (l : h.le h') : Vs h' d n es V := ⟨I.1, fun t ht => (I.2 t ht).up l⟩
theorem Vs.snoc {h : Hp} {n : Nat} {es : List Value} {x : Value} (I : Vs h d n es V) (R : RdL cI 1 h [] x (vec d (V n))) : Vs h d (n + 1) (es ++ [x]) V := by
 refine ⟨by rw [List.length_append, I.1]; rfl, fun t ht => ?_⟩
 rw [List.getElem_append]
 split
 ·rename_i h1; exact I.2 t h1
 ·rename_i h1
  have h2 : t = n := by rw [List.length_append, List.length_singleton, I.1] at ht; have := I.1; omega
  subst h2
  simpa using R
def bV (p : Int) (na e N : Nat) (w : Nat → Nat → Int) (F : Nat → Nat → Int) (m : Nat) : Nat → Int := if m < N then Ej e (fun i => w m (na + i)) (Ej na (w m) fun _ => 0) else Ej e (fun i => (p - F i (m - N)) % p) (Ej na (fun _ => 0) fun i => if i = m - N then 1 else 0)
theorem Ri {m : Nat} (h : m < N) : bV p na e N w F m = Ej e (fun i => w m (na + i)) (Ej na (w m) fun _ => 0) := if_pos h
theorem SG {j : Nat} : bV p na e N w F (N + j) = Ej e (fun i => (p - F i j) % p) (Ej na (fun _ => 0) fun i => if i = j then 1 else 0) := by
 unfold bV
 rw [if_neg (by omega), Nat.add_sub_cancel_left]
theorem VH {m : Nat} {pl : Nat → Nat} (hp : 2 ≤ p) (R : Go.Lin.Rows p (na + e) N w pl) (hm : m < N + f) : ∀ i, i < e + (na + f) → 0 ≤ bV p na e N w F m i ∧ bV p na e N w F m i < p := by
 rcases (if h : m < N then .inl h else .inr ⟨m - N, by omega⟩ : m < N ∨ ∃ j, m = N + j) with h | ⟨j, rfl⟩
 ·rw [Ri h]
  exact Cy (fun i hi => by rw [BW hi]; exact R.bd m h _ (by omega)) (Cy (fun i hi => by rw [BG, BW hi]; exact R.bd m h _ (by omega)) fun i hi => by rw [BG, BG]; omega)
 ·rw [SG]
  exact Cy (fun i hi => by rw [BW hi]; exact ⟨Int.emod_nonneg _ (by omega), Int.emod_lt_of_pos _ (by omega)⟩) (Cy (fun i hi => by rw [BG, BW hi]; omega) fun i hi => by rw [BG, BG]; split <;> omega)
theorem PW {j : Nat} (hj : j < f) (hF : ∀ i, i < e → ∀ j, j < f → 0 ≤ F i j ∧ F i j < p) : ∀ i, i < e → D2 p f F (fun k => if k = j then 1 else 0) i = F i j := fun i hi => by
 unfold D2 ap
 rw [AE (g := fun k => if k = j then F i k else 0) fun k _ => by by_cases h : k = j <;> simp [h], DP f j (F i) hj]
 have := hF i hi j hj
 exact Int.emod_eq_of_lt this.1 this.2
def TR (p : Int) (x : Nat → Int) (i k : Nat) : Int := if k < i then (p - x k) % p else x k
theorem SE (p : Int) (x : Nat → Int) (i k : Nat) : (if k = i then (p - x i) % p else TR p x i k) = TR p x (i + 1) k := by
 unfold TR
 by_cases h : k = i
 ·subst h; rw [if_pos rfl, if_pos (by omega)]
 ·rw [if_neg h]
  by_cases h2 : k < i
  ·rw [if_pos h2, if_pos (by omega)]
  ·rw [if_neg h2, if_neg (by omega)]
theorem OA (p : Int) (na e f N gx : Nat) (w : Nat → Nat → Int) (pl : Nat → Nat) (F : Nat → Nat → Int) (lv ev : Value) (h : Hp) (hp : IsP p) (hna : na ≤ 200) (he : e ≤ 200) (hf : f ≤ 200) (R : Go.Lin.Rows p (na + e) N w pl) (hG : Seg h [] ⟨gx, 0, none⟩ [.int .i64 p, lv]) (hL : RdV h lv N (na + e) w) (RA : RtM p e f F) (hA : RdL cI 1 h [] ev (mat e f F)) :
  FnT Tryz.prog 49 #[.agg #[.int .i64 na, .pointer (some ⟨gx, 0, none⟩)], .agg #[.bool true, .int .i64 p, .int .i64 e, .int .i64 f, ev]] h [] (fun r h' ms' => h.le h' ∧ ∃ (g' n' nb : Nat) (w' wb : Nat → Nat → Int) (pl' pb : Nat → Nat) (lv' : Value), r = .agg #[.int .i64 na, .pointer (some ⟨g', 0, none⟩)] ∧ ms' = [AX g' 93 [.int .i64 p, lv']] ∧ RdV h' lv' n' (na + f) w' ∧ Go.Lin.Rows p (na + f) n' w' pl' ∧ Go.Lin.Rows p (e + (na + f)) nb wb pb ∧ (∀ l, l < nb → pb l < e) ∧ ∀ y, Bwr p e (na + f) nb wb n' w' y ↔ Spn p (N + f) ty (e + (na + f)) (bV p na e N w F) y) := by
 have hp1 := hp.1
 have hp2 := hp.2.1
 have hnd := E3 R
 have o1 := hA.rd.one
 obtain ⟨vs, hvs, hLv, hLs⟩ := hL
 have hLn : ∀ h', h.le h' → Rd h' [] lv 1 N (vs.flatMap cV) := fun h' l => by have := (hLv.up l).rd; rwa [hvs] at this
 refine Av Tryz.func49 Tryz.ntmps49 rfl rfl (fun w0 hw0 => ?_)
 simp only [A4]
 refine Ax ?_
 refine AS [_, _] rfl rfl (by rfl) rfl rfl rfl (fun g2 => ?_)
 refine AS [_, _, _, _, _] rfl rfl (by rfl) rfl rfl rfl (fun g3 => ?_)
 refine BZ [.int .i64 0, .pointer none] rfl Dv rfl rfl (fun g4 => Aq (By 1 rfl fun h1 l1 hS3 => (By 1 rfl fun h2 l2 hS2 => ?_)))
 have l02 := Hp.le_trans l1 l2
 have hS3 := hS3.le l2
 have hB2 := Seg.all hS2
 have hB20 := hB2 0 _ rfl
 have hX := Seg.all (hG.le l02)
 have hX0 := hX 0 _ rfl
 refine Bv (fun sl hh ms' => ∃ g5 g28 : Nat, sl = [(2, .pointer (some ⟨g2, 0, none⟩)), (3, .pointer (some ⟨g3, 0, none⟩)), (4, .pointer (some ⟨g4, 0, none⟩)), (5, .pointer (some ⟨g5, 0, none⟩))] ∧ h2 = hh ∧ ms' = [AX g5 95 [.int .i64 na, .pointer (some ⟨g28, 0, none⟩)], AX g28 93 [.int .i64 p, .slice none 0 0], AX g4 95 [.int .i64 0, .pointer none]]) ?_ (fun s h ms hI => ?_)
 ·refine AW (n := 12) (bs := [true, true, true, true, true, true, true, true, false, false, false, false]) [true, true, true, true, true, true, true, true] Cd (by kernel_rfl) (by kernel_rfl) rfl rfl (QF D1 rfl (Qp rfl (AM rfl Tryz.underlying3 rfl rfl (hB20 _)) (QF CQ rfl (Qp rfl (AM rfl Tryz.underlying91 rfl rfl (hB2 _ _ rfl _)) (Qq rfl (QF Eo rfl (Qp rfl (AM rfl Tryz.underlying3 rfl rfl (hX0 _)) ?_)))))))
  refine Qp rfl (AT PK [.int .i64 0, .slice none 0 0] [(0, _)] [_, _] rfl RD rfl rfl (by repeat (first | exact trivial | refine ⟨⟨rfl, rfl, rfl⟩, ?_⟩)) rfl) ?_
  unfold CD
  simp only [List.cons_append, List.nil_append]
  refine A2 [8, 10] (by kernel_rfl) rfl ?_
  refine Az rfl ?_ ?_
  ·refine AS [_, _] rfl rfl (by rfl) rfl rfl rfl (fun g28 => ?_)
   refine Qw ?_
   refine An 9 29 (by kernel_rfl) rfl (Hp.le_refl _) rfl (AT Oi [.int .i64 0, .pointer none] [(0, _), (1, _)] [_, _] rfl Dv rfl rfl (by repeat (first | exact trivial | refine ⟨⟨rfl, rfl, rfl⟩, ?_⟩)) rfl) ?_
   refine Qo 10 rfl (BZ [.int .i64 0, .pointer none] rfl Dv rfl rfl (fun g5 => Qw (Qo 11 rfl ?_)))
   refine Sa 0 [_, _] Dv rfl (by simp [Value.oneCell']) ?_
   refine Qw (Qe ?_)
   exact AA _ ⟨_, _, rfl, rfl, rfl⟩ Qs
  refine Az rfl ?_ ?_
  ·refine BZ [.int .i64 0, .pointer none] rfl Dv rfl rfl (fun g5 => Qw (Qo 8 rfl ?_))
   refine AS [_, _] rfl rfl (by rfl) rfl rfl rfl (fun g28 => ?_)
   refine Qw ?_
   refine An 9 29 (by kernel_rfl) rfl (Hp.le_refl _) rfl (AT Oi [.int .i64 0, .pointer none] [(0, _), (1, _)] [_, _] rfl Dv rfl rfl (by repeat (first | exact trivial | refine ⟨⟨rfl, rfl, rfl⟩, ?_⟩)) rfl) ?_
   refine Qo 11 rfl ?_
   refine Sa 1 [_, _] Dv rfl (by simp [Value.oneCell']) ?_
   refine Qw (Qe ?_)
   exact A9 (AA _ ⟨_, _, rfl, rfl, rfl⟩ Qs)
  exact A3
 ·obtain ⟨g5, g28, rfl, rfl, rfl⟩ := hI
  refine AL fun h3 l3 hS5 => ?_
  have l03 := Hp.le_trans l02 l3
  have hS3 := hS3.le l3
  have hS2 := hS2.le l3
  have hB3 := Seg.all hS3
  have hB30 := hB3 0 _ rfl
  have hB2 := Seg.all hS2
  have hB20 := hB2 0 _ rfl
  have hX := Seg.all (hG.le l03)
  have hX0 := hX 0 _ rfl
  refine Ac (Ax (Qf EK rfl (Qx (AM rfl Tryz.underlying4 rfl rfl (hB30 _)) rfl (Qm rfl (Aq (Bb rfl (Ai (Ab (Ax (Qf CQ rfl (Qx (AM rfl Tryz.underlying91 rfl rfl (hB2 _ _ rfl _)) rfl (Qm rfl (Qf Eo rfl (Qx (AM rfl Tryz.underlying3 rfl rfl (hX0 _)) rfl ?_))))))))))))))
  refine Qx (AT PK [.int .i64 0, .slice none 0 0] [(0, _)] [_, _] rfl RD rfl rfl (by repeat (first | exact trivial | refine ⟨⟨rfl, rfl, rfl⟩, ?_⟩)) rfl) rfl ?_
  refine AS [_, _] rfl rfl (by rfl) rfl rfl rfl (fun g75 => ?_)
  refine Qm rfl (B3 (Qm rfl (Aq (Ac (Ax (Qm rfl (Aq (Ag (BX ?_)))))))))
  refine AD (fun q sl hh ms' => ∃ (m : Nat) (es : List Value) (v9 : Value) (m9 : Hp), q = N - m ∧ sl = [(2, .pointer (some ⟨g2, 0, none⟩)), (3, .pointer (some ⟨g3, 0, none⟩)), (4, .pointer (some ⟨g4, 0, none⟩)), (5, .pointer (some ⟨g5, 0, none⟩)), (8, .pointer (some ⟨g75, 0, none⟩)), (9, v9), (10, .int .i64 m)] ∧ h3.le hh ∧ ms' = [m9, AX g75 93 [.int .i64 p, .slice none 0 0], AX g28 93 [.int .i64 p, .slice none 0 0], AX g4 95 [.int .i64 0, .pointer none]] ∧ m ≤ N ∧ OwnL cV 1 24 m9 v9 es ∧ Vs hh (e + (na + f)) m es (bV p na e N w F))
   (N - 0) _ ⟨0, [], _, _, rfl, rfl, Hp.le_refl _, rfl, by omega, OwnL.nil BK, rfl, fun t ht => by simp at ht⟩ Qs ?_
  rintro q sl hh ms' ⟨m, es, v9, m9, rfl, rfl, lh, rfl, hm, hO9, hV⟩
  have l0h := Hp.le_trans l03 lh
  have hB3 := Seg.all (hS3.le lh)
  have hB30 := hB3 0 _ rfl
  have hB2 := Seg.all (hS2.le lh)
  have hB20 := hB2 0 _ rfl
  have hX := Seg.all (hG.le l0h)
  have hX0 := hX 0 _ rfl
  refine Ac (Ax (Qm rfl (Qf CQ rfl (Qx (AM rfl Tryz.underlying91 rfl rfl (hB2 _ _ rfl _)) rfl (Qm rfl (Qf C1 rfl (Qx (AM rfl Tryz.underlying62 rfl rfl (hX _ _ rfl _)) rfl (Qx (AJ (hLn _ l0h).any rfl Tryz.underlying62 rfl) rfl (Qm rfl (Aq ?_))))))))))
  refine AF rfl (fun hlt => ?_) (fun hlt => ?_)
  ·have hmN : m < N := by omega
   have hmv : m < vs.length := by omega
   have hRm := (hLs m hmv).up l0h
   have hvl := AQ (na + e) (w m)
   have hRn : Rd hh [] vs[m] 1 (na + e) ((vec (na + e) (w m)).flatMap cI) := by have := hRm.rd; rwa [hvl] at this
   have hV1 : RdL cI 1 hh [] (Ch 1 vs[m] 0 na) (vec na (w m)) := by
    have := hRm.sub_ (i := 0) (j := na) (by omega) (by omega)
    rw [Nat.sub_zero, FU (by omega)] at this
    rwa [BA (f := fun i => w m (0 + i)) (g := w m) (fun i _ => by rw [Nat.zero_add])] at this
   have hV2 : RdL cI 1 hh [] (Ch 1 vs[m] na (na + e)) (vec e fun j => w m (na + j)) := by
    have := hRm.sub_ (i := na) (j := na + e) (by omega) (by omega)
    rwa [Nat.add_sub_cancel_left, FU (Nat.le_refl _)] at this
   have hl1 := AQ na (w m)
   have hl2 := AQ e fun j => w m (na + j)
   have hesl := hV.1
   refine Ai (Ab (Ac (Ag (Ac (AW (n := 14) (bs := [false, true, true, true, true, true, true, true, true, true, true, true, false, false]) [false, true, true, true, true, true, true, true, true, true, true, true] Cd (by kernel_rfl) (by kernel_rfl) rfl rfl (QF CQ rfl (Qp rfl (AM rfl Tryz.underlying91 rfl rfl (hB2 _ _ rfl _)) (Qq rfl (QF C1 rfl (Qp rfl (AM rfl Tryz.underlying62 rfl rfl (hX _ _ rfl _)) (Qq rfl (Qp rfl (Ah (m) (hLn _ l0h).any rfl Tryz.underlying62 BN rfl rfl (by omega) (by omega)) (Qp rfl (AM rfl Tryz.underlying24 rfl rfl ((hLv.up l0h).any.cell0 hmv rfl)) (QF D1 rfl (Qp rfl (AM rfl Tryz.underlying3 rfl rfl (hB20 _)) (Qp rfl (C3 (na) hRn.any rfl Tryz.underlying24 A8 rfl rfl (by omega) (by omega)) ?_))))))))))))))))
   unfold CD
   simp only [List.cons_append, List.nil_append]
   refine Qo 0 rfl ?_
   refine AZ [] [] [] rfl Tryz.underlying24 A8 rfl (by omega) (by kernel_rfl) (by repeat (first | exact trivial | refine ⟨⟨by first | rfl | exact ((hLn _ l0h).any).cells | exact (hRn.any).cells | exact Rd.cells ‹_› | exact (RdL.rd ‹_›).cells, rfl, rfl⟩, ?_⟩)) rfl rfl rfl rfl (fun g86 => ?_)
   refine Qw (Qo 12 rfl ?_)
   refine Bm 0 (ID g86 Br) hV2.any rfl Tryz.underlying24 A8 rfl (by omega) rfl rfl rfl Cv (by (try simp only [List.length_nil, List.length_singleton]); omega) (by (try simp only [List.length_nil, List.length_singleton]); omega) rfl rfl rfl (fun v98 m98 hO98 => ?_)
   rw [List.nil_append] at hO98
   refine Qw (Qo 13 rfl (Qm rfl (Qw (Qe (Ab (Ac (AW (n := 14) (bs := [true, true, true, true, true, true, true, true, true, true, true, true, false, false]) [true, true, true, true, true, true, true, true, true, true, true, true] Cd (by kernel_rfl) (by kernel_rfl) rfl rfl (Qq rfl (QF CQ rfl (Qp rfl (AM rfl Tryz.underlying91 rfl rfl (hB2 _ _ rfl _)) (Qq rfl (QF C1 rfl (Qp rfl (AM rfl Tryz.underlying62 rfl rfl (hX _ _ rfl _)) (Qq rfl (Qp rfl (Ah (m) (hLn _ l0h).any rfl Tryz.underlying62 BN rfl rfl (by omega) (by omega)) (Qp rfl (AM rfl Tryz.underlying24 rfl rfl ((hLv.up l0h).any.cell0 hmv rfl)) (QF D1 rfl (Qp rfl (AM rfl Tryz.underlying3 rfl rfl (hB20 _)) (Qp rfl (EA (na) hRn.any rfl Tryz.underlying24 A8 rfl rfl (by omega) (by omega)) ?_)))))))))))))))))))
   unfold CD
   simp only [List.cons_append, List.nil_append]
   refine Qo 12 rfl ?_
   refine Bm 0 hO98 hV1.any rfl Tryz.underlying24 A8 rfl (by omega) rfl rfl rfl Cv (by (try simp only [List.length_nil, List.length_singleton]); omega) (by (try simp only [List.length_nil, List.length_singleton]); omega) rfl rfl rfl (fun v111 m111 hO111 => ?_)
   rw [Hk] at hO111
   refine Qw (Qo 13 rfl (Qm rfl (Qw (Qe ?_))))
   have hl3 := AQ (e + na) (Ej e (fun j => w m (na + j)) (w m))
   refine Ab (Ad (Qm rfl (Qm rfl (Qf Ca rfl (Qf A0 rfl ?_)))))
   refine Qx (AM rfl Tryz.underlying3 rfl rfl (by (rw [A6]; exact hB3 _ _ rfl _))) rfl ?_
   refine I7 0 hO111 rfl Tryz.underlying24 Tryz.underlying3 A8 rfl rfl rfl (by omega) (by omega) rfl rfl rfl (fun v117 m117 hO117 => ?_)
   rw [G5, Hk, Jl, Nat.add_assoc, ← Ri (p := p) (F := F) hmN] at hO117
   have o117 : v117.oneCell' = true := (hO117.rd (h := h) (ms := [m117]) (List.Mem.head _)).rd.one
   refine AB [_] rfl Tryz.underlying62 BN rfl (((hO117.rd (h := h) (ms := [m117]) (List.Mem.head _)).rd).cells) rfl rfl (by omega) rfl rfl rfl (fun g118 => ?_)
   refine Ba 2 hO9 (RdL.one BK (x := v117) (List.Mem.head _) rfl) rfl Tryz.underlying62 BN rfl (by omega) rfl rfl rfl (Cj o117) (by (try simp only [List.length_nil, List.length_singleton]); omega) (by (try simp only [List.length_nil, List.length_singleton]); omega) rfl rfl rfl (fun v9b m9b hO9b => ?_)
   refine Qm rfl (Ak (Aj (Ab (Ad (Qm rfl (Qx (oA rfl) rfl (Qm rfl (Ak (A5 (CW hO117 fun h5 l5 hR5 => ?_))))))))))
   exact Al (N - (m + 1)) _ (by omega) ⟨m + 1, _, v9b, m9b, rfl, rfl, Hp.le_trans lh l5, rfl, by omega, hO9b, (hV.up l5).snoc hR5⟩ Qs
  ·obtain rfl : m = N := by omega
   refine Aw (Aa (Aa (Af (Ab (Ac (Ax (Qm rfl (Aq (Ag ?_)))))))))
   refine AD (fun q sl hk ms' => ∃ (j : Nat) (es : List Value) (v9 : Value) (m9 : Hp), q = f - j ∧ sl = [(2, .pointer (some ⟨g2, 0, none⟩)), (3, .pointer (some ⟨g3, 0, none⟩)), (4, .pointer (some ⟨g4, 0, none⟩)), (5, .pointer (some ⟨g5, 0, none⟩)), (8, .pointer (some ⟨g75, 0, none⟩)), (9, v9), (12, .int .i64 j)] ∧ hh.le hk ∧ ms' = [m9, AX g75 93 [.int .i64 p, .slice none 0 0], AX g28 93 [.int .i64 p, .slice none 0 0], AX g4 95 [.int .i64 0, .pointer none]] ∧ j ≤ f ∧ OwnL cV 1 24 m9 v9 es ∧ Vs hk (e + (na + f)) (m + j) es (bV p na e m w F))
    (f - 0) _ ⟨0, es, v9, m9, rfl, rfl, Hp.le_refl _, rfl, by omega, hO9, hV⟩ Qs ?_
   rintro q sl hk ms' ⟨j, es, v9, m9, rfl, rfl, lk, rfl, hj, hO9, hV⟩
   have l3k := Hp.le_trans lh lk
   have l0k := Hp.le_trans l0h lk
   have hB3 := Seg.all (hS3.le l3k)
   have hB30 := hB3 0 _ rfl
   have hB2 := Seg.all (hS2.le l3k)
   have hB20 := hB2 0 _ rfl
   have hX := Seg.all (hG.le l0k)
   have hX0 := hX 0 _ rfl
   refine Ac (Ax (Qm rfl (Qf Ca rfl (Qf A0 rfl ?_))))
   refine Qx (AM rfl Tryz.underlying3 rfl rfl (by (rw [A6]; exact hB3 _ _ rfl _))) rfl ?_
   refine Qm rfl (Aq ?_)
   refine AF rfl (fun hltj => ?_) (fun hltj => ?_)
   ·have hjf : j < f := by omega
    have hesl := hV.1
    refine Ai (Ab (Ac (Ag (Ax (Qf Ca rfl (Qf A0 rfl ?_))))))
    refine Qx (AM rfl Tryz.underlying3 rfl rfl (by (rw [A6]; exact hB3 _ _ rfl _))) rfl ?_
    refine Eu (n := f) rfl Tryz.underlying24 A8 rfl rfl rfl (by rfl) (by rfl) (by omega) (by omega) rfl rfl rfl (fun g130 => ?_)
    refine Qm rfl (Aq ?_)
    have hO13 := OwnL.rep (g := g130) (el := 3) f 0 (by omega)
    rw [G5] at hO13
    refine Ax (Qm rfl (Qm rfl (Qx (Dz _ rfl Tryz.underlying24 A8 rfl rfl rfl (by omega)) rfl ?_)))
    refine Bu 0 j hO13 rfl A8 rfl rfl rfl (by rw [AQ]; exact hjf) rfl rfl (fun m13 hO13' => ?_)
    rw [D6] at hO13'
    refine Aq (Bg hO13' fun h5 l5 hR13 => ?_)
    have l05 := Hp.le_trans l0k l5
    have hl13 := AQ f fun k => if k = j then (1 : Int) else 0
    refine Ax (Qf Ca rfl (Qx (Du rfl Tryz.underlying42 rfl AI rfl rfl (KW (hS3.le (Hp.le_trans l3k l5)))) rfl (Qm rfl ?_)))
    refine E4 rfl Tryz.call83 rfl (Jo p e f F (fun k => if k = j then 1 else 0) ev _ h5 RA (fun k _ => by split <;> omega) (hA.up l05) hR13) rfl rfl rfl (fun vi h6 ms6 l6 hF => ?_)
    obtain ⟨l6', mi, rfl, hOi⟩ := hF
    rw [BA (PW hjf RA.en)] at hOi
    have l36 := Hp.le_trans l3k (Hp.le_trans l5 l6)
    have l06 := Hp.le_trans l05 l6
    have hB3 := Seg.all (hS3.le l36)
    have hB2 := Seg.all (hS2.le l36)
    have hB20 := hB2 0 _ rfl
    have hX := Seg.all (hG.le l06)
    have hX0 := hX 0 _ rfl
    have hR13 := hR13.up l6
    refine Qm rfl (Aq (Ac (Ax (Qm rfl (Aq (Ag ?_))))))
    refine AD (fun q sl h7 ms' => ∃ (i : Nat) (mi : Hp), q = e - i ∧ sl = [(2, .pointer (some ⟨g2, 0, none⟩)), (3, .pointer (some ⟨g3, 0, none⟩)), (4, .pointer (some ⟨g4, 0, none⟩)), (5, .pointer (some ⟨g5, 0, none⟩)), (8, .pointer (some ⟨g75, 0, none⟩)), (9, v9), (12, .int .i64 j), (13, .slice (some ⟨g130, 0, none⟩) f f), (14, vi), (15, .int .i64 i)] ∧ h6 = h7 ∧ ms' = [mi, m9, AX g75 93 [.int .i64 p, .slice none 0 0], AX g28 93 [.int .i64 p, .slice none 0 0], AX g4 95 [.int .i64 0, .pointer none]] ∧ i ≤ e ∧ OwnL cI 1 3 mi vi (vec e (TR p (fun i => F i j) i)))
     (e - 0) _ ⟨0, mi, rfl, rfl, rfl, rfl, by omega, by rw [BA (f := TR p (fun i => F i j) 0) (g := fun i => F i j) (fun k _ => if_neg (by omega))]; exact hOi⟩ Qs ?_
    rintro q sl h7 ms' ⟨i, mi, rfl, rfl, rfl, rfl, hi, hOi⟩
    have hli := AQ e (TR p (fun i => F i j) i)
    have hRi : Rd h6 [mi] vi 1 e ((vec e (TR p (fun i => F i j) i)).flatMap cI) := by have := (hOi.rd (h := h6) (ms := [mi]) (List.Mem.head _)).rd; rwa [hli] at this
    refine Ac (Ax (Qm rfl (Qm rfl (Qx (CH hRi rfl Tryz.underlying24 rfl) rfl (Qm rfl (Aq ?_))))))
    refine AF rfl (fun hlti => ?_) (fun hlti => ?_)
    ·have hie : i < e := by omega
     have hFb := RA.en i hie j hjf
     have hci : ∀ ms, mi ∈ ms → Cell h6 ms ((Bl vi).add (i * 1)) (.int .i64 (F i j)) := fun ms hm => by
      have := (hOi.rd (h := h6) hm).ev hie
      rwa [show TR p (fun i => F i j) i i = F i j from if_neg (by omega)] at this
     refine Ai (Ab (Ac (Ag (AW (n := 20) (bs := [true, true, true, true, true, true, true, true, true, true, false, false, true, true, true, true, true, false, true, false]) [true, true, true, true, true, true, true, true, true, true, false, false, true, true, true, true, true, false, true] Cd (by kernel_rfl) (by kernel_rfl) rfl rfl (Qq rfl (Qq rfl (QF CQ rfl (Qp rfl (AM rfl Tryz.underlying91 rfl rfl (hB2 _ _ rfl _)) (Qq rfl (QF Eo rfl (Qp rfl (AM rfl Tryz.underlying3 rfl rfl (hX0 _)) (Qq rfl (Qq rfl (Qp rfl (Bo (i) hRi rfl Tryz.underlying24 A8 rfl rfl (by omega) (by omega)) (QF CQ rfl (Qp rfl (AM rfl Tryz.underlying91 rfl rfl (hB2 _ _ rfl _)) (Qq rfl (QF Eo rfl (Qp rfl (AM rfl Tryz.underlying3 rfl rfl (hX0 _)) (Qp rfl (Bo (i) hRi rfl Tryz.underlying24 A8 rfl rfl (by omega) (by omega)) ?_))))))))))))))))))))
     unfold CD
     simp only [List.cons_append, List.nil_append]
     refine Qo 10 rfl (Qx (AM rfl Tryz.underlying3 rfl rfl (hci _ (List.Mem.head _))) rfl (Qw (An 11 155 (by kernel_rfl) rfl (Hp.le_refl _) rfl (oS rfl) (An 17 161 (by kernel_rfl) rfl (Hp.le_refl _) rfl (B0 rfl rfl rfl (by omega) (by omega)) (Qo 19 rfl (Bu 0 i hOi rfl A8 rfl rfl rfl (by omega) rfl rfl (fun m' hO' => Qw (Qe (Aj (Ab (Ad (Qm rfl (Qx (oA rfl) rfl (Qm rfl (Ak ?_)))))))))))))))
     refine Al (e - (i + 1)) _ (by omega) ⟨i + 1, m', rfl, rfl, rfl, rfl, by omega, ?_⟩ Qs
     rw [D6, BA (fun k _ => SE p (fun i => F i j) i k)] at hO'
     exact hO'
    ·obtain rfl : i = e := by omega
     rw [BA (f := TR p (fun i => F i j) i) (g := fun k => (p - F k j) % p) (fun k hk => if_pos hk)] at hOi
     have hl4 := AQ i fun k => (p - F k j) % p
     refine Aw (Aa (Aa (Af (Ab (Ax (Qm rfl (Qf D1 rfl (Qx (AM rfl Tryz.underlying3 rfl rfl (hB20 _)) rfl (I7 0 hOi rfl Tryz.underlying24 Tryz.underlying3 A8 rfl rfl rfl (by omega) (by omega) rfl rfl rfl (fun v16 m16 hO16 => ?_))))))))))
     rw [G5, Hk] at hO16
     have hl5 := AQ (i + na) (Ej i (fun k => (p - F k j) % p) fun _ => 0)
     refine Qm rfl (IA (Qm rfl (Qm rfl (Qm rfl ?_))))
     refine Bm 0 hO16 hR13.any rfl Tryz.underlying24 A8 rfl (by omega) rfl rfl rfl Cv (by (try simp only [List.length_nil, List.length_singleton]); omega) (by (try simp only [List.length_nil, List.length_singleton]); omega) rfl rfl rfl (fun v17 m17 hO17 => ?_)
     rw [Hk, Jl, Nat.add_assoc, ← SG (p := p) (N := m) (w := w)] at hO17
     have o17 : v17.oneCell' = true := (hO17.rd (h := h) (ms := [m17]) (List.Mem.head _)).rd.one
     refine AB [_] rfl Tryz.underlying62 BN rfl (((hO17.rd (h := h6) (ms := [m17]) (List.Mem.head _)).rd).cells) rfl rfl (by omega) rfl rfl rfl (fun g171 => ?_)
     refine Ba 2 hO9 (RdL.one BK (x := v17) (List.Mem.head _) rfl) rfl Tryz.underlying62 BN rfl (by omega) rfl rfl rfl (Cj o17) (by (try simp only [List.length_nil, List.length_singleton]); omega) (by (try simp only [List.length_nil, List.length_singleton]); omega) rfl rfl rfl (fun v9b m9b hO9b => ?_)
     refine Qm rfl (Ak (Aj (Ab (Ad (Qm rfl (Qx (oA rfl) rfl (Qm rfl (Ak (A5 (CW hO17 fun h8 l8 hR8 => ?_))))))))))
     exact Al (f - (j + 1)) _ (by omega) ⟨j + 1, _, v9b, m9b, rfl, rfl, Hp.le_trans lk (Hp.le_trans l5 (Hp.le_trans l6 l8)), rfl, by omega, hO9b, (hV.up (Hp.le_trans l5 (Hp.le_trans l6 l8))).snoc hR8⟩ Qs
   ·obtain rfl : j = f := by omega
    refine Aw (Aa (Aa (Af (Ab (Ac (Ax (Qm rfl (Aq (Ag (Bg hO9 fun h5 l5 hR9 => ?_))))))))))
    have l35 := Hp.le_trans l3k l5
    have hV5 := hV.up l5
    refine AD (fun q sl hh2 ms' => ∃ (k nb n' : Nat) (wb w' : Nat → Nat → Int) (pb pl' : Nat → Nat) (lb lw : Value), q = m + j - k ∧ sl = [(2, .pointer (some ⟨g2, 0, none⟩)), (3, .pointer (some ⟨g3, 0, none⟩)), (4, .pointer (some ⟨g4, 0, none⟩)), (5, .pointer (some ⟨g5, 0, none⟩)), (8, .pointer (some ⟨g75, 0, none⟩)), (9, v9), (17, .int .i64 k)] ∧ h5.le hh2 ∧ ms' = [AX g75 93 [.int .i64 p, lb], AX g28 93 [.int .i64 p, lw], AX g4 95 [.int .i64 0, .pointer none]] ∧ k ≤ m + j ∧ RdV hh2 lb nb (e + (na + j)) wb ∧ Go.Lin.Rows p (e + (na + j)) nb wb pb ∧ (∀ l, l < nb → pb l < e) ∧ RdV hh2 lw n' (na + j) w' ∧ Go.Lin.Rows p (na + j) n' w' pl' ∧ ∀ y, Bwr p e (na + j) nb wb n' w' y ↔ Spn p k ty (e + (na + j)) (bV p na e m w F) y)
     (m + j - 0) _ ⟨0, 0, 0, fun _ _ => 0, fun _ _ => 0, fun _ => 0, fun _ => 0, _, _, rfl, rfl, Hp.le_refl _, rfl, by omega, GV, FO, fun l hl => by omega, GV, FO, Ua⟩ Qs ?_
    rintro q sl hh2 ms' ⟨k, nb, n', wb, w', pb, pl', lb, lw, rfl, rfl, lq, rfl, hk, hLb, Rb, hpb, hLw, Rw, S⟩
    have hV := hV5.up lq
    have hes := hV.1
    have hR9 := hR9.up lq
    have hRn9 : ∀ h', hh2.le h' → Rd h' [] v9 1 (m + j) (es.flatMap cV) := fun h' l => by have := (hR9.up l).rd; rwa [hes] at this
    have hB3 := Seg.all (hS3.le (Hp.le_trans l35 lq))
    have hB5 := Seg.all (hS5.le (Hp.le_trans l35 lq))
    have hnb := E3 Rb
    refine Ac (Ax (Qm rfl (Qm rfl (Qx (AJ (hRn9 _ (Hp.le_refl _)).any rfl Tryz.underlying62 rfl) rfl (Qm rfl (Aq ?_))))))
    refine AF rfl (fun hltk => ?_) (fun hltk => ?_)
    ·have hkN : k < m + j := by omega
     have hkv : k < es.length := by omega
     have hRk := hV.2 k hkv
     have hbk := VH (e := e) (f := j) (F := F) hp1 R hkN
     refine Ai (Ab (Ac (Ag (CV fun h6 l6 lG dG LG => ?_))))
     have hG75 : Seg h6 [] ⟨g75, 0, none⟩ [.int .i64 p, lb] := Seg.ofLe lG
     have hB36 := Seg.all (hS3.le (Hp.le_trans (Hp.le_trans l35 lq) l6))
     refine Ac (AW (n := 10) (bs := [true, true, true, true, true, true, true, true, false, false]) [true, true, true, true, true, true, true, true] Cd (by kernel_rfl) (by kernel_rfl) rfl rfl (Qq rfl (Qq rfl (Qq rfl (Qp rfl (Ah (k) (hRn9 _ l6).any rfl Tryz.underlying62 BN rfl rfl (by omega) (by omega)) (Qp rfl (AM rfl Tryz.underlying24 rfl rfl ((hR9.up l6).any.cell0 hkv rfl)) (QF Ca rfl (QF Bh rfl ?_))))))))
     refine Qp rfl (AM rfl Tryz.underlying3 rfl rfl (by (rw [A6]; exact hB36 _ _ rfl _))) ?_
     unfold CD
     simp only [List.cons_append, List.nil_append]
     refine Qo 8 rfl (E4 rfl Tryz.call84 rfl (Od p (e + (na + j)) nb g75 e (bV p na e m w F k) wb pb lb _ h6 hp (by omega) Rb hG75 (hLb.up l6) hbk (hRk.up l6) (by omega)) rfl rfl rfl (fun v18 h7 ms7 l7 hF => ?_))
     obtain ⟨rfl, m18, out, rfl, hO18, hLe⟩ := hF
     refine Qw (Qo 9 rfl (Qm rfl (Qw (Qe (E1 LG lG fun h7 l7 b7 => ?_)))))
     have h27 : hh2.le h7 := b7 hh2 l6 dG
     refine A9 (CW hO18 fun h8 l8 hR18 => ?_)
     have l28 := Hp.le_trans h27 l8
     have hob := hLe.bd
     obtain ⟨s1, s2, s3⟩ := Ip out (e + (na + j))
     have hB38 := Seg.all (hS3.le (Hp.le_trans (Hp.le_trans l35 lq) l28))
     have hB58 := Seg.all (hS5.le (Hp.le_trans (Hp.le_trans l35 lq) l28))
     have hlo := AQ (e + (na + j)) out
     have hRn18 : Rd h8 [] v18 1 (e + (na + j)) ((vec (e + (na + j)) out).flatMap cI) := by have := hR18.rd; rwa [hlo] at this
     refine Ab (Ax (Qm rfl (Qx (AG rfl Tryz.call80 rfl (FW _ _ h8 hR18 _)) rfl (Qm rfl (B3 (Qm rfl (Qm rfl (Qm rfl ?_))))))))
     by_cases hz : fs (e + (na + j)) out < e
     ·have hzD : fs (e + (na + j)) out < e + (na + j) := by omega
      have hne := s3 hzD
      rw [Fg hzD hne s2]
      refine AR (t := 192) rfl (fun hs => ?_) (fun hs => absurd ((by omega)) hs)
      refine Qg (As rfl rfl) rfl (Qg (oF Ca rfl) rfl (Qg (oF Bh rfl) rfl ?_))
      refine Qg (AM rfl Tryz.underlying3 rfl rfl (by (rw [A6]; exact hB38 _ _ rfl _))) rfl ?_
      refine Qg (Dy rfl rfl rfl) rfl (Qm rfl (Aq ?_))
      refine AF rfl (fun hc => ?_) (fun hc => absurd ((by omega)) hc)
      refine Ad (Qm rfl (Qm rfl ?_))
      refine Bs (pre := [AX g75 93 [.int .i64 p, lb]]) rfl Tryz.call48 rfl (J1 p (e + (na + j)) nb g75 (fs (e + (na + j)) out) out wb pb lb v18 h8 hp (by omega) Rb (hLb.up l28) hob hR18 hzD hne s2 (fun l hl he => hne (by rw [← he]; exact hLe.zero l hl (hpb l hl)))) rfl rfl rfl rfl (fun x9 h9 ms9 l9 hF => ?_)
      obtain ⟨l9', q, lb', rfl, hq, hLb', Rb'⟩ := hF
      have h1 := hob _ hzD
      have hcg := Q1 hp (show 1 ≤ out (fs (e + (na + j)) out) by omega) h1.2
      have l29 := Hp.le_trans l28 l9
      refine Ak (Aj (Ab (Ad (Qm rfl (Qx (oA rfl) rfl (Qm rfl (Ak ?_)))))))
      refine Al (m + j - (k + 1)) _ (by omega) ⟨k + 1, nb + 1, n', _, w', _, pl', lb', lw, rfl, rfl, Hp.le_trans lq l29, rfl, by omega, hLb', Rb', fun l hl => ?_, hLw.up l29, Rw, JR S (UB (Ln hLe hq (u := Gf (out (fs (e + (na + j)) out)) p) (t := out (fs (e + (na + j)) out)) (fun i hi => (Cg.mod _ _).trans (Cg.of_eq (Int.mul_comm _ _))) hcg))⟩ Qs
      rcases Nat.lt_trichotomy l q with h | rfl | h
      ·rw [DN h]; exact hpb l (by omega)
      ·rw [Dk]; exact hz
      ·rw [DM h]; exact hpb _ (by omega)
     ·have h0 : ∀ i, i < e → out i = 0 := fun i hi => s2 i (by omega)
      have hout : ∀ i, i < na + j → 0 ≤ out (e + i) ∧ out (e + i) < p := fun i hi => hob _ (by omega)
      have hRt : RdL cI 1 h8 [] (Ch 1 v18 e (e + (na + j))) (vec (na + j) fun i => out (e + i)) := by
       have := hR18.sub_ (i := e) (j := e + (na + j)) (by omega) (by omega)
       rwa [Nat.add_sub_cancel_left, FU (Nat.le_refl _)] at this
      by_cases hz2 : fs (e + (na + j)) out < e + (na + j)
      ·rw [Fg hz2 (s3 hz2) s2]
       refine AR (t := 192) rfl (fun hs => ?_) (fun hs => absurd ((by omega)) hs)
       refine Qg (As rfl rfl) rfl (Qg (oF Ca rfl) rfl (Qg (oF Bh rfl) rfl ?_))
       refine Qg (AM rfl Tryz.underlying3 rfl rfl (by (rw [A6]; exact hB38 _ _ rfl _))) rfl ?_
       refine Qg (Dy rfl rfl rfl) rfl (Qm rfl (Aq (AF rfl (fun hc => absurd hc ((by omega))) (fun hc => Di (AW (n := 8) (bs := [true, true, true, true, true, true, true, false]) [true, true, true, true, true, true, true] Cd (by kernel_rfl) (by kernel_rfl) rfl rfl (QF CQ rfl (Qp rfl (AM rfl Tryz.underlying91 rfl rfl (hB58 _ _ rfl _)) (Qq rfl (QF Ca rfl (QF Bh rfl ?_))))))))))
       refine Qp rfl (AM rfl Tryz.underlying3 rfl rfl (by (rw [A6]; exact hB38 _ _ rfl _))) ?_
       refine Qp rfl (C3 (e) hRn18.any rfl Tryz.underlying24 A8 rfl rfl (by omega) (by omega)) ?_
       unfold CD
       simp only [List.cons_append, List.nil_append]
       refine Qo 7 rfl (Bs (pre := [AX g28 93 [.int .i64 p, lw]]) rfl Tryz.call82 rfl (KE p (na + j) n' g28 (fun i => out (e + i)) w' pl' lw _ h8 hp (by omega) Rw (hLw.up l28) hout hRt) rfl rfl rfl rfl (fun x9 h9 ms9 l9 hF => ?_))
       obtain ⟨l9', n2, w2, pl2, lw2, rfl, hL2, hR2, hS2'⟩ := hF
       refine Qa (Qe ?_)
       have l29 := Hp.le_trans l28 l9
       refine A9 (Aj (Ab (Ad (Qm rfl (Qx (oA rfl) rfl (Qm rfl (Ak ?_)))))))
       exact Al (m + j - (k + 1)) _ (by omega) ⟨k + 1, nb, n2, wb, w2, pb, pl2, lb, lw2, rfl, rfl, Hp.le_trans lq l29, rfl, by omega, hLb.up l29, Rb, hpb, hL2, hR2, JR S (Sw hLe h0 hS2')⟩ Qs
      ·rw [JO (ME (by omega))]
       refine AR (t := 192) rfl (fun hs => absurd hs ((by omega))) (fun hs => Qk rfl (Qk rfl (Qk rfl (Qk rfl (Qk rfl (Qm rfl (Aq (Bb rfl (Di (AW (n := 8) (bs := [true, true, true, true, true, true, true, false]) [true, true, true, true, true, true, true] Cd (by kernel_rfl) (by kernel_rfl) rfl rfl (QF CQ rfl (Qp rfl (AM rfl Tryz.underlying91 rfl rfl (hB58 _ _ rfl _)) (Qq rfl (QF Ca rfl (QF Bh rfl ?_)))))))))))))))
       refine Qp rfl (AM rfl Tryz.underlying3 rfl rfl (by (rw [A6]; exact hB38 _ _ rfl _))) ?_
       refine Qp rfl (C3 (e) hRn18.any rfl Tryz.underlying24 A8 rfl rfl (by omega) (by omega)) ?_
       unfold CD
       simp only [List.cons_append, List.nil_append]
       refine Qo 7 rfl (Bs (pre := [AX g28 93 [.int .i64 p, lw]]) rfl Tryz.call82 rfl (KE p (na + j) n' g28 (fun i => out (e + i)) w' pl' lw _ h8 hp (by omega) Rw (hLw.up l28) hout hRt) rfl rfl rfl rfl (fun x9 h9 ms9 l9 hF => ?_))
       obtain ⟨l9', n2, w2, pl2, lw2, rfl, hL2, hR2, hS2'⟩ := hF
       refine Qa (Qe ?_)
       have l29 := Hp.le_trans l28 l9
       refine A9 (Aj (Ab (Ad (Qm rfl (Qx (oA rfl) rfl (Qm rfl (Ak ?_)))))))
       exact Al (m + j - (k + 1)) _ (by omega) ⟨k + 1, nb, n2, wb, w2, pb, pl2, lb, lw2, rfl, rfl, Hp.le_trans lq l29, rfl, by omega, hLb.up l29, Rb, hpb, hL2, hR2, JR S (Sw hLe h0 hS2')⟩ Qs
    ·obtain rfl : k = m + j := by omega
     refine Aw (Aa (Aa (Af (Ab (Ax (Qx (Du rfl Tryz.underlying95 rfl Dv rfl rfl (Seg.any (hS5.le (Hp.le_trans l35 lq)))) rfl ?_))))))
     refine Sa 2 [_, _] Dv rfl (by simp [Value.oneCell']) ?_
     refine Aq (Ao (AP 0 rfl ?_))
     exact Cl (vs := [_, _]) 1 rfl rfl Tryz.underlying95 rfl Dv rfl rfl (⟨Hp.le_trans l0k (Hp.le_trans l5 lq), g28, n', nb, w', wb, pl', pb, lw, rfl, rfl, hLw, Rw, Rb, hpb, S⟩)
end Go.Proofs.YtdnelknieikbaaaGreat
namespace Go.Proofs.YtdnelknieikbaaaGreat
open Go.Eng Go.RowKit Go.Lin
theorem Qi (Z : Zz) (vd va : Value) (a b N gx : Nat) (w : Nat → Nat → Int) (pl : Nat → Nat) (lv : Value) (h : Hp) (hRt : Z.Rt) (hR : RdZ h vd va Z) (hab : a ≤ b) (hb : b < Z.ars.length) (R : Go.Lin.Rows Z.p (Z.zg.d a + Z.zg.d b) N w pl) (RR : Rr Z.zg a b N w) (hG : Seg h [] ⟨gx, 0, none⟩ [.int .i64 Z.p, lv]) (hL : RdV h lv N (Z.zg.d a + Z.zg.d b) w) :
  FnT Tryz.prog 49 #[.agg #[.int .i64 (Z.zg.d a), .pointer (some ⟨gx, 0, none⟩)], .agg #[.bool Z.ars[b].b, .int .i64 Z.ars[b].M.p, .int .i64 Z.ars[b].M.rows, .int .i64 Z.ars[b].M.cols, Z.ars[b].v]] h [] (fun r h' ms' => h.le h' ∧ ∃ (g' n' : Nat) (w' : Nat → Nat → Int) (pl' : Nat → Nat) (lv' : Value), r = .agg #[.int .i64 (Z.zg.d a), .pointer (some ⟨g', 0, none⟩)] ∧ ms' = [AX g' 93 [.int .i64 Z.p, lv']] ∧ RdV h' lv' n' (Z.zg.d a + Z.zg.d (b + 1)) w' ∧ Go.Lin.Rows Z.p (Z.zg.d a + Z.zg.d (b + 1)) n' w' pl' ∧ Rr Z.zg a (b + 1) n' w') := by
 obtain ⟨f1, f2, f3, f4, f5⟩ := Z.arrow hRt hb
 have hp := hRt.2.2.2.1
 have ho := hR.e _ (List.getElem_mem hb)
 have hbk := Z.zg_back hb
 rw [f4] at ho
 rw [f1, f2, f3]
 rcases Z.zg.src_tgt b with ⟨e1, e2, e3⟩ | ⟨e1, e2, e3⟩
 ·rw [e1, e2] at ho f5 ⊢
  rw [hbk] at e3
  rw [e3]
  refine (Oj Z.p (Z.zg.d a) (Z.zg.d b) (Z.zg.d (b + 1)) N gx w pl _ lv _ h hp (Z.d_le hRt a) (Z.d_le hRt b) (Z.d_le hRt (b + 1)) R hG hL f5 ho).mono ?_
  rintro r h' ms' ⟨l, g', n', w', pl', lv', h1, h2, h3, h4, h5⟩
  exact ⟨l, g', n', w', pl', lv', h1, h2, h3, h4, RR.fwd hab (hbk.trans e3) (fun m hm i hi => Cg.of_eq (BW hi)) (fun m hm i hi => by rw [BG]; exact Cg.mod _ _) h5⟩
 ·rw [e1, e2] at ho f5 ⊢
  rw [hbk] at e3
  rw [e3]
  refine (OA Z.p (Z.zg.d a) (Z.zg.d b) (Z.zg.d (b + 1)) N gx w pl _ lv _ h hp (Z.d_le hRt a) (Z.d_le hRt b) (Z.d_le hRt (b + 1)) R hG hL f5 ho).mono ?_
  rintro r h' ms' ⟨l, g', n', nb, w', wb, pl', pb, lv', h1, h2, h3, h4, h5, h6, h7⟩
  refine ⟨l, g', n', w', pl', lv', h1, h2, h3, h4, RR.bwd hab (hbk.trans e3) (fun m hm i hi => Cg.of_eq (by rw [Ri hm])) (fun j hj => ?_) h5 h6 h7⟩
  rw [SG]
  refine Cy (fun i hi => ?_) fun i hi => ?_
  ·rw [BW hi, BW hi]
   exact (Cg.mod _ _).trans (((Cg.self Z.p).sub (Cg.refl Z.p (Z.zg.mat b i j))).trans (Cg.of_eq (Int.zero_sub _)))
  ·rw [BG, BG]; exact Cg.refl _ _
theorem T6 {p : Int} (hp : IsP p) : Gf 1 p = 1 := by
 have h2 := hp.1
 exact (L3 hp (Int.le_refl 1) (by omega) (v := 1) ⟨by omega, by omega⟩ (by rw [Int.mul_one, Int.emod_eq_of_lt (by omega) (by omega)])).symm
def Un (n : Nat) (l i : Nat) : Int := if i = l ∨ i = n + l then 1 else 0
theorem T2 {p : Int} {d k q : Nat} {w : Nat → Nat → Int} {pl : Nat → Nat} {x : Nat → Int} (hq : q ≤ k) (hpl : ∀ l, l < k → pl l < k) (hR : Go.Lin.Rows p d (k + 1) (Eg q x w) (Eg q k pl)) : q = k := by
 rcases (by omega : q = k ∨ q < k) with h | h
 ·exact h
 ·have h1 := hR.inc q (q + 1) (by omega) (by omega)
  rw [Dk, DM (by omega), Nat.add_sub_cancel] at h1
  have := hpl q h
  omega
theorem MZ (Z : Zz) (D : Dc) (vd va : Value) (from_ to : Int) (h : Hp) (hO : Z.Ok) (hR : RdZ h vd va Z) (hD : Z.Rt → Valid Z.zg D) (hf : Dh from_) (ht : Dh to) :
  FnT Tryz.prog 25 #[.agg #[.int .i64 Z.p, vd, va], .int .i64 from_, .int .i64 to] h [] (fun r _ _ => r = .int .i64 (if Z.Rt ∧ 0 ≤ from_ ∧ from_ ≤ to ∧ to < (Z.dims.length : Int) then (cnt D.N (D.cov from_.toNat to.toNat) : Nat) else 0)) := by
 have o1 := hR.d.rd.one
 have o2 := hR.a.rd.one
 refine Av Tryz.func25 Tryz.ntmps25 rfl rfl (fun w0 hw0 => ?_)
 simp only [A4]
 refine Ax ?_
 refine AS [_, _, _] rfl rfl (by rfl) rfl rfl rfl (fun g3 => ?_)
 refine Qm rfl (Aq (AL fun h1 l1 hS3 => ?_))
 have hR := hR.up l1
 have hA := Seg.all hS3
 have hA0 := hA 0 _ rfl
 refine Ax (Qx (Du rfl Tryz.underlying30 rfl Bz rfl rfl (Seg.any hS3)) rfl (Qx (AG rfl Tryz.call22 rfl (Ds (Ff Z vd va _ hO hR) _)) rfl (Qm rfl (Aq (Ac (Ax (Qm rfl (Qm rfl (Qm rfl ?_)))))))))
 refine CO (t := 16) rfl (fun q1 => ?_) (fun q1 => ?_)
 ·have hn : ¬ Z.Rt := by simpa using q1
  refine Qk rfl (Qk rfl (Qm rfl (Qm rfl (Qk rfl (Qk rfl (Qk rfl (Qm rfl (Qm rfl (Qk rfl (Qk rfl (Qk rfl (Qk rfl (Qk rfl (Qm rfl (Aq (AU rfl (Ax (Qm rfl (Aq (Ao (Ae ?_)))))))))))))))))))))
  exact Am rfl rfl (by rw [if_neg fun e => hn e.1])
 ·have hRt : Z.Rt := by simpa using q1
  refine Qg (As rfl rfl) rfl (Qg (Dy rfl rfl rfl) rfl (Qm rfl (Qm rfl ?_)))
  refine AR (t := 20) rfl (fun q2 => ?_) (fun q2 => ?_)
  ·refine Qk rfl (Qk rfl (Qk rfl (Qm rfl (Qm rfl (Qk rfl (Qk rfl (Qk rfl (Qk rfl (Qk rfl (Qm rfl (Aq (AU rfl (Ax (Qm rfl (Aq (Ao (Ae ?_)))))))))))))))))
   exact Am rfl rfl (by rw [if_neg fun e => by omega])
  ·refine Qg (As rfl rfl) rfl (Qg (As rfl rfl) rfl (Qg (Dd rfl rfl rfl) rfl (Qm rfl (Qm rfl ?_))))
   refine AR (t := 25) rfl (fun q3 => ?_) (fun q3 => ?_)
   ·refine Qk rfl (Qk rfl (Qk rfl (Qk rfl (Qk rfl (Qm rfl (Aq (AU rfl (Ax (Qm rfl (Aq (Ao (Ae ?_))))))))))))
    exact Am rfl rfl (by rw [if_neg fun e => by omega])
   ·refine Qg (As rfl rfl) rfl (Qg (oF Bn rfl) rfl (Qg (AM rfl Tryz.underlying24 rfl rfl (hA _ _ rfl _)) rfl (Qg (AJ hR.d.rd.any rfl Tryz.underlying24 rfl) rfl (Qg (DU rfl rfl rfl) rfl (Qm rfl (Aq ?_))))))
    refine AF rfl (fun q4 => ?_) (fun q4 => ?_)
    ·refine Ac (Ad (Qm rfl (Aq (Ao (Ae ?_)))))
     exact Am rfl rfl (by rw [if_neg fun e => by omega])
    ·rw [if_pos ⟨hRt, by omega, by omega, by omega⟩]
     obtain ⟨a, rfl⟩ := Int.eq_ofNat_of_zero_le (show 0 ≤ from_ by omega)
     obtain ⟨b, rfl⟩ := Int.eq_ofNat_of_zero_le (show 0 ≤ to by omega)
     have hab : a ≤ b := by omega
     have hbn : b < Z.dims.length := by omega
     have han : a < Z.dims.length := by omega
     have n2 := hRt.2.1
     have hna := Z.nars hRt
     have hp := hRt.2.2.2.1
     have hp1 := hp.1
     have hp2 := hp.2.1
     have hda := Z.d_le hRt a
     have hca : ∀ ms, Cell h1 ms ((Bl vd).add (a * 1)) (.int .i64 (Z.zg.d a)) := fun ms => by
      have := hR.d.any.cell0 (ms := ms) han rfl
      rw [Z.zg_d hRt a]
      unfold Zz.dim
      rwa [show Z.dims.getD a 0 = Z.dims[a] by simp [List.getD, han]]
     refine Ai (Ab ?_)
     refine Bv (fun sl hh ms' => ∃ g8 g40 : Nat, sl = [(1, .int .i64 a), (2, .int .i64 b), (3, .pointer (some ⟨g3, 0, none⟩)), (8, .pointer (some ⟨g8, 0, none⟩))] ∧ h1 = hh ∧ ms' = [AX g8 95 [.int .i64 (Z.zg.d a), .pointer (some ⟨g40, 0, none⟩)], AX g40 93 [.int .i64 Z.p, .slice none 0 0]]) ?_ (fun s h ms hI => ?_)
     ·refine AW (n := 12) (bs := [true, true, true, true, true, true, true, true, false, false, false, false]) [true, true, true, true, true, true, true, true] Cd (by kernel_rfl) (by kernel_rfl) rfl rfl (QF Bn rfl (Qp rfl (AM rfl Tryz.underlying24 rfl rfl (hA _ _ rfl _)) (Qq rfl (Qp rfl (Ah (a) hR.d.rd.any rfl Tryz.underlying24 A8 rfl rfl (by omega) (by omega)) (Qp rfl (AM rfl Tryz.underlying3 rfl rfl (hca _)) (QF CG rfl (Qp rfl (AM rfl Tryz.underlying3 rfl rfl (hA0 _)) ?_)))))))
      refine Qp rfl (AT PK [.int .i64 0, .slice none 0 0] [(0, _)] [_, _] rfl RD rfl rfl (by repeat (first | exact trivial | refine ⟨⟨rfl, rfl, rfl⟩, ?_⟩)) rfl) ?_
      unfold CD
      simp only [List.cons_append, List.nil_append]
      refine A2 [8, 10] (by kernel_rfl) rfl ?_
      refine Az rfl ?_ ?_
      ·refine AS [_, _] rfl rfl (by rfl) rfl rfl rfl (fun g40 => ?_)
       refine Qw ?_
       refine An 9 41 (by kernel_rfl) rfl (Hp.le_refl _) rfl (AT Oi [.int .i64 0, .pointer none] [(0, _), (1, _)] [_, _] rfl Dv rfl rfl (by repeat (first | exact trivial | refine ⟨⟨rfl, rfl, rfl⟩, ?_⟩)) rfl) ?_
       refine Qo 10 rfl (BZ [.int .i64 0, .pointer none] rfl Dv rfl rfl (fun g8 => Qw (Qo 11 rfl ?_)))
       refine Sa 0 [_, _] Dv rfl (by simp [Value.oneCell']) ?_
       refine Qw (Qe ?_)
       exact AA _ ⟨_, _, rfl, rfl, rfl⟩ Qs
      refine Az rfl ?_ ?_
      ·refine BZ [.int .i64 0, .pointer none] rfl Dv rfl rfl (fun g8 => Qw (Qo 8 rfl ?_))
       refine AS [_, _] rfl rfl (by rfl) rfl rfl rfl (fun g40 => ?_)
       refine Qw ?_
       refine An 9 41 (by kernel_rfl) rfl (Hp.le_refl _) rfl (AT Oi [.int .i64 0, .pointer none] [(0, _), (1, _)] [_, _] rfl Dv rfl rfl (by repeat (first | exact trivial | refine ⟨⟨rfl, rfl, rfl⟩, ?_⟩)) rfl) ?_
       refine Qo 11 rfl ?_
       refine Sa 1 [_, _] Dv rfl (by simp [Value.oneCell']) ?_
       refine Qw (Qe ?_)
       exact A9 (AA _ ⟨_, _, rfl, rfl, rfl⟩ Qs)
      exact A3
     ·obtain ⟨g8, g40, rfl, rfl, rfl⟩ := hI
      refine Ac (Ax (Qm rfl (Aq (Ag ?_))))
      refine AD (fun q sl hh ms' => ∃ (k : Nat) (w : Nat → Nat → Int) (pl : Nat → Nat) (lv : Value), q = Z.zg.d a - k ∧ sl = [(1, .int .i64 a), (2, .int .i64 b), (3, .pointer (some ⟨g3, 0, none⟩)), (8, .pointer (some ⟨g8, 0, none⟩)), (9, .int .i64 k)] ∧ h1.le hh ∧ ms' = [AX g8 95 [.int .i64 (Z.zg.d a), .pointer (some ⟨g40, 0, none⟩)], AX g40 93 [.int .i64 Z.p, lv]] ∧ k ≤ Z.zg.d a ∧ RdV hh lv k (Z.zg.d a + Z.zg.d a) w ∧ Go.Lin.Rows Z.p (Z.zg.d a + Z.zg.d a) k w pl ∧ (∀ l, l < k → pl l = l) ∧ ∀ l, l < k → ∀ i, i < Z.zg.d a + Z.zg.d a → w l i = Un (Z.zg.d a) l i)
       (Z.zg.d a - 0) _ ⟨0, fun _ _ => 0, fun _ => 0, _, rfl, rfl, Hp.le_refl _, rfl, by omega, GV, FO, fun l hl => by omega, fun l hl => by omega⟩ Qs ?_
      rintro q sl hh ms' ⟨k, w, pl, lv, rfl, rfl, lh, rfl, hk, hL, Rw, hpl, hw⟩
      refine Ac (Ax (Qm rfl (Qf D1 rfl (Qx (AM rfl Tryz.underlying3 rfl rfl (Cell.blk 0 (k := 0) rfl rfl)) rfl (Qm rfl (Aq ?_))))))
      refine AF rfl (fun hlt => ?_) (fun hlt => ?_)
      ·have hka : k < Z.zg.d a := by omega
       refine Ai (Ab (Ac (Ag (Ax (Qf D1 rfl (Qx (AM rfl Tryz.underlying3 rfl rfl (Cell.blk 0 (k := 0) rfl rfl)) rfl (Qx (oM rfl) rfl (Eu (n := (Z.zg.d a + Z.zg.d a)) rfl Tryz.underlying24 A8 rfl rfl rfl (by omega) (by omega) (by omega) (by omega) rfl rfl rfl (fun g51 => Qm rfl (Aq ?_))))))))))
       have hO := OwnL.rep (g := g51) (el := 3) (Z.zg.d a + Z.zg.d a) 0 (by omega)
       rw [G5] at hO
       refine Ax (Qm rfl (Qm rfl (Qx (Dz _ rfl Tryz.underlying24 A8 rfl rfl rfl (by omega)) rfl ?_)))
       refine Bu 0 k hO rfl A8 rfl rfl rfl (by rw [AQ]; omega) rfl rfl (fun m1 hO1 => ?_)
       rw [D6] at hO1
       refine B3 (Qm rfl (Qf D1 rfl (Qx (AM rfl Tryz.underlying3 rfl rfl (Cell.blk 1 (k := 0) rfl rfl)) rfl (Qm rfl (Qx (oA rfl) rfl (Qx (Dz (Z.zg.d a + k) rfl Tryz.underlying24 A8 rfl rfl (by omega) (by omega)) rfl ?_))))))
       refine Bu 0 (Z.zg.d a + k) hO1 rfl A8 rfl rfl rfl (by rw [AQ]; omega) rfl rfl (fun m2 hO2 => ?_)
       rw [D6] at hO2
       have hvi : ∀ i, (if i = Z.zg.d a + k then (1 : Int) else if i = k then 1 else 0) = Un (Z.zg.d a) k i := fun i => by
        unfold Un
        by_cases e2 : i = Z.zg.d a + k
        ·rw [if_pos e2, if_pos (.inr e2)]
        ·rw [if_neg e2]
         by_cases e1 : i = k
         ·rw [if_pos e1, if_pos (.inl e1)]
         ·rw [if_neg e1, if_neg (by omega)]
       rw [BA (fun i _ => hvi i)] at hO2
       refine Aq (Bg hO2 fun h5 l5 hR5 => ?_)
       have l15 := Hp.le_trans lh l5
       refine Ad (Qf CQ rfl (Qx (AM rfl Tryz.underlying91 rfl rfl (Cell.blk 0 (k := 1) rfl rfl)) rfl (Qm rfl (Fe ?_))))
       have hib : ∀ i, 0 ≤ Un (Z.zg.d a) k i ∧ Un (Z.zg.d a) k i < Z.p := fun i => by unfold Un; split <;> omega
       have hik : Un (Z.zg.d a) k k = 1 := if_pos (.inl rfl)
       refine Bs (pre := [AX g40 93 [.int .i64 Z.p, lv]]) rfl Tryz.call48 rfl (J1 Z.p (Z.zg.d a + Z.zg.d a) k g40 k (Un (Z.zg.d a) k) w pl lv _ h5 hp (by omega) Rw (hL.up l5) (fun i _ => hib i) hR5 (by omega) (by rw [hik]; decide) (fun i hi => if_neg (by omega)) (fun l hl => by rw [hpl l hl]; omega)) rfl rfl rfl rfl (fun x9 h9 ms9 l9 hF => ?_)
       obtain ⟨l9', q, lv', rfl, hq, hL', Rw'⟩ := hF
       obtain rfl : q = k := T2 hq (fun l hl => by rw [hpl l hl]; exact hl) Rw'
       refine Ak (Aj (Ab (Ad (Qm rfl (Qx (oA rfl) rfl (Qm rfl (Ak (A9 ?_))))))))
       refine Al (Z.zg.d a - (q + 1)) _ (by omega) ⟨q + 1, _, _, lv', rfl, rfl, Hp.le_trans l15 l9, rfl, by omega, hL', Rw', fun l hl => ?_, fun l hl i hi => ?_⟩ Qs
       ·rcases (by omega : l < q ∨ l = q) with h | rfl
        ·rw [DN h]; exact hpl l h
        ·exact Dk
       ·rcases (by omega : l < q ∨ l = q) with h | rfl
        ·rw [DN h]; exact hw l h i hi
        ·rw [Dk, hik, T6 hp, Int.mul_one]
         exact Int.emod_eq_of_lt (hib i).1 (hib i).2
      ·obtain rfl : k = Z.zg.d a := by omega
       have hRR : Rr Z.zg a a (Z.zg.d a) w := Rr.start _ rfl hw
       refine Aw (Aa (Aa (Af (Ab (Ac (Ax (Qm rfl (Qm rfl (Aq (Ag (Di (AL fun h5 l5 hG => ?_))))))))))))
       have l15 := Hp.le_trans lh l5
       refine AD (fun q sl hh2 ms' => ∃ (k N gx : Nat) (w : Nat → Nat → Int) (pl : Nat → Nat) (lv : Value), q = b - k ∧ sl = [(2, .int .i64 b), (3, .pointer (some ⟨g3, 0, none⟩)), (8, .pointer (some ⟨g8, 0, none⟩)), (11, .int .i64 k)] ∧ h5.le hh2 ∧ ms' = [AX g8 95 [.int .i64 (Z.zg.d a), .pointer (some ⟨gx, 0, none⟩)]] ∧ a ≤ k ∧ k ≤ b ∧ Seg hh2 [] ⟨gx, 0, none⟩ [.int .i64 Z.p, lv] ∧ RdV hh2 lv N (Z.zg.d a + Z.zg.d k) w ∧ Go.Lin.Rows Z.p (Z.zg.d a + Z.zg.d k) N w pl ∧ Rr Z.zg a k N w)
        (b - a) _ ⟨a, _, g40, w, pl, lv, rfl, rfl, Hp.le_refl _, rfl, by omega, hab, hG, hL.up l5, Rw, hRR⟩ Qs ?_
       rintro q sl hh2 ms' ⟨k, N, gx, w, pl, lv, rfl, rfl, lq, rfl, hk1, hk2, hG, hL, Rw, hRR⟩
       have l1q := Hp.le_trans l15 lq
       have hR := hR.up l1q
       have hA := Seg.all (hS3.le l1q)
       refine Ac (Ax (Qm rfl (Qm rfl (Qm rfl (Aq ?_)))))
       refine AF rfl (fun hltk => ?_) (fun hltk => ?_)
       ·have hkb : k < b := by omega
        have hka : k < Z.ars.length := by omega
        have hseg : ∀ ms, Seg hh2 ms ((Bl va).add (k * 5)) (cA Z.ars[k]) := fun ms => (hR.a.any (ms := ms)).seg hka
        refine Ai (Ab (Ac (Ag (AW (n := 8) (bs := [false, true, true, true, true, true, false, false]) [false, true, true, true, true, true] Cd (by kernel_rfl) (by kernel_rfl) rfl rfl (QF BQ rfl (Qp rfl (AM rfl Tryz.underlying28 rfl rfl (hA _ _ rfl _)) (Qq rfl (Qp rfl (Ah (k) hR.a.rd.any rfl Tryz.underlying28 Cr rfl rfl (by omega) (by omega)) (Qp rfl (Du rfl Tryz.underlying45 rfl Cr rfl rfl (hseg _)) ?_)))))))))
        unfold CD
        simp only [List.cons_append, List.nil_append]
        refine Qo 0 rfl (Qx (Du rfl Tryz.underlying95 rfl Dv rfl rfl (Seg.blk 0 rfl)) rfl (Qw (Qo 6 rfl (E4 rfl Tryz.call49 rfl (Qi Z vd va a k N gx w pl lv hh2 hRt hR hk1 hka Rw hRR hG hL) rfl rfl rfl (fun x6 h6 ms6 l6 hF => ?_)))))
        obtain ⟨l6', g', n', w', pl', lv', rfl, rfl, hL', Rw', hRR'⟩ := hF
        refine Qa (Qo 7 rfl ?_)
        refine Sa 1 [_, _] Dv rfl (by simp [Value.oneCell']) ?_
        refine Qa (Qe (Aj (Ab (Ad (Qm rfl (Qx (oA rfl) rfl (Qm rfl (Ak (MK fun h7 l7 k7 => ?_)))))))))
        have hG' : Seg h7 [] ⟨g', 0, none⟩ [.int .i64 Z.p, lv'] := Seg.ofLe k7
        exact Al (b - (k + 1)) _ (by omega) ⟨k + 1, n', g', w', pl', lv', rfl, rfl, Hp.le_trans lq (Hp.le_trans l6 l7), rfl, by omega, by omega, hG', hL'.up l7, Rw', hRR'⟩ Qs
       ·obtain rfl : k = b := by omega
        refine Aw (Aa (Aa (Af (Ab (Ax (Qx (Du rfl Tryz.underlying95 rfl Dv rfl rfl (Seg.blk 0 rfl)) rfl ?_))))))
        refine E4 rfl Tryz.call50 rfl (MO Z.p (Z.zg.d a) (Z.zg.d k) N gx w pl lv hh2 hp (by omega) (by have := Z.d_le hRt k; omega) Rw hG hL) rfl rfl rfl (fun x6 h6 ms6 l6 hF => ?_)
        obtain ⟨nw, ww, pw, rfl, Rs, hSp⟩ := hF
        have hrk := hRR.rank hp.fld (hD hRt) hk1 hbn Rw Rs hSp
        refine Qm rfl (Aq (Ao ?_))
        exact Am rfl rfl (by congr 1; show (nw : Int) - _ = (cnt D.N (D.cov a k) : Nat); omega)
end Go.Proofs.YtdnelknieikbaaaGreat
namespace Go.Proofs.YtdnelknieikbaaaGreat
open Go.Eng Go.RowKit Go.Lin Go.Sort Go.Srt
def Je (Z : Zz) (D : Dc) (a b : Int) : Int := if Z.Rt ∧ 0 ≤ a ∧ a ≤ b ∧ b < (Z.dims.length : Int) then (cnt D.N (D.cov a.toNat b.toNat) : Nat) else 0
theorem RV {n : Nat} {b b' : Nat → Bool} (h : ∀ l, l < n → b l = true → b' l = true) : cnt n b ≤ cnt n b' := by
 induction n with
 | zero => exact Nat.le_refl _
 | succ n ih =>
  rw [BO, BO]
  have h1 := ih fun l hl => h l (by omega)
  have h2 := h n (by omega)
  cases hb : b n with
  | false => simp only [Bool.false_eq_true, if_false]; omega
  | true => rw [h2 hb]; simp only [if_true]; omega
theorem Kj {Z : Zz} {D : Dc} (hV : Z.Rt → Valid Z.zg D) (a b : Int) : 0 ≤ Je Z D a b ∧ Je Z D a b ≤ 200 := by
 unfold Je
 split
 ·rename_i h
  obtain ⟨hR, h1, h2, h3⟩ := h
  have V := hV hR
  obtain ⟨b', rfl⟩ := Int.eq_ofNat_of_zero_le (show 0 ≤ b by omega)
  have hb : b' < Z.zg.n := by show b' < Z.dims.length; omega
  have e := V.cnt b' hb
  have hd := Z.d_le hR b'
  have hc := Qv V (a := a.toNat) (b := b') (by omega)
  have hm : cnt D.N (fun l => D.cov a.toNat b' l && D.on b' l) ≤ cnt D.N (D.on b') := RV fun l _ h => by simp only [Bool.and_eq_true] at h; exact h.2
  show (0 : Int) ≤ (cnt D.N (D.cov a.toNat b') : Nat) ∧ ((cnt D.N (D.cov a.toNat b') : Nat) : Int) ≤ 200
  omega
 ·omega
end Go.Proofs.YtdnelknieikbaaaGreat
set_option maxHeartbeats 2000000
namespace Go.Proofs.YtdnelknieikbaaaGreat
open Go.Eng Go.RowKit Go.Lin Go.Sort Go.Srt
def G0 (c : Int × Int → Nat) (i j : Nat) : List (Int × Int) := if 0 < c (i, j) then [((i : Int), (j : Int))] else []
def Hu (c : Int × Int → Nat) (i n : Nat) : List (Int × Int) := (List.range n).flatMap fun t => G0 c i (i + t)
def Ha (c : Int × Int → Nat) (w n : Nat) : List (Int × Int) := (List.range n).flatMap fun i => Hu c i (w - i)
def KX (c : Int × Int → Nat) (ks : List (Int × Int)) : List Iv := ks.map fun a => ⟨a.1, a.2, (c a : Nat)⟩
theorem Ox (c : Int × Int → Nat) (i j : Nat) : (G0 c i j).length ≤ 1 := by unfold G0; split <;> simp
theorem F5 (c : Int × Int → Nat) (i n : Nat) : Hu c i (n + 1) = Hu c i n ++ G0 c i (i + n) := by unfold Hu; rw [List.range_succ, List.flatMap_append]; simp
theorem HM (c : Int × Int → Nat) (w n : Nat) : Ha c w (n + 1) = Ha c w n ++ Hu c n (w - n) := by unfold Ha; rw [List.range_succ, List.flatMap_append]; simp
theorem LC (c : Int × Int → Nat) (i n : Nat) : (Hu c i n).length ≤ n := by
 induction n with
 | zero => simp [Hu]
 | succ n ih => rw [F5, List.length_append]; have := Ox c i (i + n); omega
theorem Qt (c : Int × Int → Nat) (w n : Nat) : (Ha c w n).length ≤ w * n := by
 induction n with
 | zero => simp [Ha]
 | succ n ih => rw [HM, List.length_append, Nat.mul_succ]; have := LC c n (w - n); omega
theorem mem_cellK {c : Int × Int → Nat} {i j : Nat} {a : Int × Int} : a ∈ G0 c i j ↔ a = ((i : Int), (j : Int)) ∧ 0 < c a := by
 unfold G0
 split
 ·rename_i h
  rw [List.mem_singleton]
  exact ⟨fun e => ⟨e, e ▸ h⟩, fun e => e.1⟩
 ·rename_i h
  exact ⟨fun e => absurd e (by simp), fun e => absurd (e.1 ▸ e.2) h⟩
theorem KK (c : Int × Int → Nat) (i n : Nat) : (Hu c i n).Pairwise fun a b => D3 a b < 0 := by
 induction n with
 | zero => simp [Hu]
 | succ n ih =>
  rw [F5]
  refine List.pairwise_append.2 ⟨ih, ?_, fun a ha b hb => ?_⟩
  ·unfold G0; split <;> simp
  ·obtain ⟨rfl, _⟩ := mem_cellK.1 hb
   obtain ⟨t, ht, h⟩ := List.mem_flatMap.1 ha
   obtain ⟨rfl, _⟩ := mem_cellK.1 h
   have := List.mem_range.1 ht
   rw [Cm]
   show ((i : Int) < i) ∨ ((i : Int) = i ∧ ((i + t : Nat) : Int) < ((i + n : Nat) : Int))
   omega
theorem KI (c : Int × Int → Nat) (w n : Nat) : (Ha c w n).Pairwise fun a b => D3 a b < 0 := by
 induction n with
 | zero => simp [Ha]
 | succ n ih =>
  rw [HM]
  refine List.pairwise_append.2 ⟨ih, KK c n _, fun a ha b hb => ?_⟩
  obtain ⟨i, hi, h⟩ := List.mem_flatMap.1 ha
  obtain ⟨t, ht, h⟩ := List.mem_flatMap.1 h
  obtain ⟨rfl, _⟩ := mem_cellK.1 h
  obtain ⟨u, hu, h⟩ := List.mem_flatMap.1 hb
  obtain ⟨rfl, _⟩ := mem_cellK.1 h
  have := List.mem_range.1 hi
  rw [Cm]
  show ((i : Int) < n) ∨ _
  left; omega
theorem Pf (c : Int × Int → Nat) (w : Nat) (h : ∀ a, 0 < c a → 0 ≤ a.1 ∧ a.1 ≤ a.2 ∧ a.2 < w) : DE c (KX c (Ha c w w)) := by
 refine ⟨Ha c w w, rfl, KI c w w, fun a => ?_⟩
 constructor
 ·intro ha
  obtain ⟨i, hi, h1⟩ := List.mem_flatMap.1 ha
  obtain ⟨t, ht, h1⟩ := List.mem_flatMap.1 h1
  exact (mem_cellK.1 h1).2
 ·intro ha
  obtain ⟨h1, h2, h3⟩ := h a ha
  obtain ⟨x, y⟩ := a
  simp only at h1 h2 h3
  refine List.mem_flatMap.2 ⟨x.toNat, List.mem_range.2 (by omega), List.mem_flatMap.2 ⟨(y - x).toNat, List.mem_range.2 (by omega), mem_cellK.2 ⟨?_, ha⟩⟩⟩
  rw [Prod.mk.injEq]; omega
theorem Tf (c : Int × Int → Nat) (a b : List (Int × Int)) : KX c (a ++ b) = KX c a ++ KX c b := List.map_append
end Go.Proofs.YtdnelknieikbaaaGreat
set_option maxHeartbeats 4000000
namespace Go.Proofs.YtdnelknieikbaaaGreat
open Go.Proofs.Tryz
open Go.Eng Go.RowKit Go.Lin Go.Sort Go.Srt
variable {Z : Zz} {D : Dc}
theorem Ni (hR : Z.Rt) (V : Valid Z.zg D) (a b : Int) (h1 : -1 ≤ a) (h2 : a ≤ b) (h3 : 0 ≤ b) (h4 : b ≤ (Z.dims.length : Int)) : Je Z D a b = (cnt D.N (D.cv (a + 1).toNat b.toNat) : Nat) := by
 unfold Je
 by_cases ha : 0 ≤ a
 ·by_cases hb : b < (Z.dims.length : Int)
  ·rw [if_pos ⟨hR, ha, h2, hb⟩]
   congr 1
   refine CC fun l hl => ?_
   unfold Dc.cov Dc.cv
   congr 1
   exact decide_eq_decide.2 (by omega)
  ·rw [if_neg fun e => hb e.2.2.2, DT fun l hl => by
    have h5 : D.to l < Z.dims.length := (V.ends l hl).2
    unfold Dc.cv
    rw [decide_eq_false (show ¬ b.toNat ≤ D.to l by omega), Bool.and_false]]
   rfl
 ·rw [if_neg fun e => ha e.2.1, DT fun l hl => by
   unfold Dc.cv
   rw [decide_eq_false (show ¬ D.fr l < (a + 1).toNat by omega), Bool.false_and]]
  rfl
theorem TM (hR : Z.Rt) (V : Valid Z.zg D) (i j : Nat) (hij : i ≤ j) (hj : j < Z.dims.length) : Je Z D i j - Je Z D ((i : Int) - 1) j - Je Z D i ((j : Int) + 1) + Je Z D ((i : Int) - 1) ((j : Int) + 1) = (D.ct ((i : Int), (j : Int)) : Nat) := by
 rw [Ni hR V i j (by omega) (by omega) (by omega) (by omega), Ni hR V ((i : Int) - 1) j (by omega) (by omega) (by omega) (by omega), Ni hR V i ((j : Int) + 1) (by omega) (by omega) (by omega) (by omega), Ni hR V ((i : Int) - 1) ((j : Int) + 1) (by omega) (by omega) (by omega) (by omega), M6]
 have h := Sq D i j hij
 rw [show ((i : Int) + 1).toNat = i + 1 by omega, show ((i : Int) - 1 + 1).toNat = i by omega, show ((j : Int) + 1).toNat = j + 1 by omega, show (j : Int).toNat = j by omega]
 omega
theorem Wb (V : Valid Z.zg D) (a : Int × Int) (h : 0 < D.ct a) : 0 ≤ a.1 ∧ a.1 ≤ a.2 ∧ a.2 < ((Z.dims.length : Nat) : Int) := by
 unfold Dc.ct at h
 obtain ⟨l, hl⟩ := List.exists_mem_of_length_pos h
 obtain ⟨h4, h5⟩ := mem_sel.1 hl
 have h6 := V.ends l h4
 have h5 := of_decide_eq_true h5
 have h7 : Z.zg.n = Z.dims.length := rfl
 subst h5
 refine ⟨?_, ?_, ?_⟩ <;> simp only <;> omega
theorem OY {vd va : Value} {h : Hp} (hRt : Z.Rt) (hR : RdZ h vd va Z) (ms : List Hp) : Dq Tryz.prog 22 #[.agg #[.int .i64 Z.p, vd, va]] h ms (.bool true) := by
 have := Ds (Ff Z vd va _ hRt.ok hR) ms
 rwa [decide_eq_true hRt] at this
theorem Qr (Z : Zz) (D : Dc) (vd va : Value) (h : Hp) (hRt : Z.Rt) (hR : RdZ h vd va Z) (V : Valid Z.zg D) :
  FnT Tryz.prog 18 #[.agg #[.int .i64 Z.p, vd, va]] h [] (fun r h' ms' => h.le h' ∧ ∃ m, ms' = [m] ∧ OwnL GO 3 37 m r (KX D.ct (Ha D.ct Z.dims.length Z.dims.length))) := by
 have o1 := hR.d.rd.one
 have o2 := hR.a.rd.one
 have n1 := hRt.1
 have n2 := hRt.2.1
 refine Av func18 ntmps18 rfl rfl (fun w0 hw0 => ?_)
 simp only [A4]
 refine Ax ?_
 refine AS [_, _, _] rfl rfl (by rfl) rfl rfl rfl (fun g1 => ?_)
 refine Qm rfl (Aq (AL fun h1 l1 hS1 => ?_))
 have hR := hR.up l1
 have hA := Seg.all hS1
 refine Ax (Qm rfl (B3 (Qx (oG rfl underlying30 Bz (Seg.any hS1)) rfl (Qx (AG rfl call22 rfl (OY hRt hR _)) rfl (Qm rfl (B3 (Qf Bn rfl (Ql rfl underlying24 (hA _ _ rfl _) (Qx (AJ hR.d.rd.any rfl underlying24 rfl) rfl (Qm rfl (Aq (Ac (Ax (Qm rfl (Aq (Ag (BX ?_)))))))))))))))))
 refine AD (fun q sl hh ms' => ∃ (i : Nat) (v3 : Value) (m3 : Hp), q = Z.dims.length - i ∧ sl = [(1, .pointer (some ⟨g1, 0, none⟩)), (3, v3), (4, .bool true), (5, .int .i64 Z.dims.length), (6, .int .i64 i)] ∧ h1 = hh ∧ ms' = [m3] ∧ i ≤ Z.dims.length ∧ OwnL GO 3 37 m3 v3 (KX D.ct (Ha D.ct Z.dims.length i)))
  (Z.dims.length - 0) _ ⟨0, _, _, rfl, rfl, rfl, rfl, by omega, OwnL.nil FS⟩ Qs ?_
 rintro q sl hh ms' ⟨i, v3, m3, rfl, rfl, rfl, rfl, hi, hO⟩
 refine Ac (Ax (Qm rfl (Qm rfl (Qm rfl (Qm rfl ?_)))))
 by_cases hlt : i < Z.dims.length
 ·refine AR (t := 17) rfl (fun hs => ?_) (fun hs => absurd ((by omega)) hs)
  have hal := Qt D.ct Z.dims.length i
  have hal2 : Z.dims.length * i ≤ 100 * 100 := Nat.mul_le_mul n2 (by omega)
  refine Qg (As rfl rfl) rfl (Qm rfl (Aq (AU rfl (Ai (Ab ?_)))))
  refine Bv (fun sl hh ms' => ∃ (v3 : Value) (m3 : Hp), sl = [(1, .pointer (some ⟨g1, 0, none⟩)), (3, v3), (4, .bool true), (5, .int .i64 Z.dims.length), (6, .int .i64 i)] ∧ h1 = hh ∧ ms' = [m3] ∧ OwnL GO 3 37 m3 v3 (KX D.ct (Ha D.ct Z.dims.length (i + 1)))) ?_ (fun s h ms hI => ?_)
  ·refine Ag (Ax (Qm rfl (Qm rfl (Aq (Ag ?_)))))
   refine AD (fun q sl hh ms' => ∃ (u : Nat) (v3 : Value) (m3 : Hp), q = Z.dims.length - i - u ∧ sl = [(1, .pointer (some ⟨g1, 0, none⟩)), (3, v3), (4, .bool true), (5, .int .i64 Z.dims.length), (6, .int .i64 i), (7, .int .i64 ((i + u : Nat) : Int))] ∧ h1 = hh ∧ ms' = [m3] ∧ u ≤ Z.dims.length - i ∧ OwnL GO 3 37 m3 v3 (KX D.ct (Ha D.ct Z.dims.length i ++ Hu D.ct i u)))
    (Z.dims.length - i - 0) _ ⟨0, _, _, rfl, rfl, rfl, rfl, by omega, by rw [show Hu D.ct i 0 = [] by simp [Hu], List.append_nil]; exact hO⟩ Qs ?_
   rintro q sl hh ms' ⟨u, v3, m3, rfl, rfl, rfl, rfl, hu, hO⟩
   have hrl := LC D.ct i u
   have hivl : (KX D.ct (Ha D.ct Z.dims.length i ++ Hu D.ct i u)).length ≤ 20000 := by unfold KX; rw [List.length_map, List.length_append]; omega
   refine Ac (Ax (Qm rfl (Qm rfl (Qm rfl (Aq ?_)))))
   refine AF rfl (fun hlt2 => ?_) (fun hlt2 => ?_)
   ·have hul : i + u < Z.dims.length := by omega
    have hmany := TM hRt V i (i + u) (by omega) hul
    have hV : Z.Rt → Valid Z.zg D := fun _ => V
    have b1 := Kj hV i ((i + u : Nat) : Int)
    have b2 := Kj hV ((i : Int) - 1) ((i + u : Nat) : Int)
    have b3 := Kj hV i (((i + u : Nat) : Int) + 1)
    have b4 := Kj hV ((i : Int) - 1) (((i + u : Nat) : Int) + 1)
    have hrk : ∀ a b : Int, Dh a → Dh b → ∀ ms, Dq Tryz.prog 25 #[.agg #[.int .i64 Z.p, vd, va], .int .i64 a, .int .i64 b] h1 ms (.int .i64 (Je Z D a b)) := fun a b ha hb ms => Ds (MZ Z D vd va a b h1 hRt.ok hR hV ha hb) ms
    refine Ai (Ab (Ac (Ag (Ac (AW (n := 24) (bs := [true, true, true, true, true, true, true, true, true, true, true, true, true, true, true, true, true, true, true, true, true, true, true, false]) [true, true, true, true, true, true, true, true, true, true, true, true, true, true, true, true, true, true, true, true, true, true, true] Cd (by kernel_rfl) (by kernel_rfl) rfl rfl (Qp rfl (oG rfl underlying30 Bz (Seg.any hS1)) (Qq rfl (Qq rfl ?_))))))))
    refine Qp rfl (AG rfl call25 rfl (hrk _ _ (by unfold Dh; omega) (by unfold Dh; omega) _)) ?_
    refine Qp rfl (oG rfl underlying30 Bz (Seg.any hS1)) (Qq rfl (Qp rfl (oS rfl) (Qq rfl ?_)))
    refine Qp rfl (AG rfl call25 rfl (hrk _ _ (by unfold Dh; omega) (by unfold Dh; omega) _)) ?_
    refine Qp rfl (oS rfl) (Qp rfl (oG rfl underlying30 Bz (Seg.any hS1)) (Qq rfl (Qq rfl (Qp rfl (oA rfl) ?_))))
    refine Qp rfl (AG rfl call25 rfl (hrk _ _ (by unfold Dh; omega) (by unfold Dh; omega) _)) ?_
    refine Qp rfl (oS rfl) (Qp rfl (oG rfl underlying30 Bz (Seg.any hS1)) (Qq rfl (Qp rfl (oS rfl) (Qq rfl (Qp rfl (oA rfl) ?_)))))
    refine Qp rfl (AG rfl call25 rfl (hrk _ _ (by unfold Dh; omega) (by unfold Dh; omega) _)) ?_
    refine Qp rfl (oA rfl) ?_
    unfold CD
    simp only [List.cons_append, List.nil_append]
    refine Qo 23 rfl (Qm rfl (Qw (Qe (Ab (Ax (Qm rfl (Qm rfl (Aq ?_))))))))
    rw [hmany]
    refine AF rfl (fun hpos => ?_) (fun hpos => ?_)
    ·have hp : 0 < D.ct ((i : Int), ((i + u : Nat) : Int)) := by omega
     refine Ad (Qm rfl (Qm rfl (Qm rfl (Qm rfl ?_))))
     refine Qx (AT US [.int .i64 0, .int .i64 0, .int .i64 0] [(0, _), (1, _), (2, _)] [_, _, _] rfl DV rfl rfl (by repeat (first | exact trivial | refine ⟨⟨rfl, rfl, rfl⟩, ?_⟩)) rfl) rfl ?_
     refine AB [_, _, _] rfl underlying33 DV rfl (by rfl) rfl rfl (by omega) rfl rfl rfl (fun g58 => ?_)
     refine Bm 1 hO (RdL.one FS (x := ⟨i, ((i + u : Nat) : Int), (D.ct ((i : Int), ((i + u : Nat) : Int)) : Nat)⟩) (List.Mem.head _) rfl) rfl underlying33 DV rfl (by omega) rfl rfl rfl Kk (by simp only [List.length_singleton]; omega) (by simp only [List.length_singleton]; omega) rfl rfl rfl (fun vo2 mo2 hO2 => ?_)
     refine Qm rfl (Ak (Aj (Ab (Ad (Qm rfl (Qx (oA rfl) rfl (Qm rfl (Ak (A5 ?_)))))))))
     exact Al (Z.dims.length - i - (u + 1)) _ (by omega) ⟨u + 1, vo2, mo2, rfl, rfl, rfl, rfl, by omega, by rw [F5, ← List.append_assoc, Tf, show G0 D.ct i (i + u) = [((i : Int), ((i + u : Nat) : Int))] from if_pos hp]; exact hO2⟩ Qs
    ·have hp : ¬ 0 < D.ct ((i : Int), ((i + u : Nat) : Int)) := by omega
     refine Ai (Aj (Ab (Ad (Qm rfl (Qx (oA rfl) rfl (Qm rfl (Ak ?_)))))))
     exact Al (Z.dims.length - i - (u + 1)) _ (by omega) ⟨u + 1, v3, m3, rfl, rfl, rfl, rfl, by omega, by rw [F5, show G0 D.ct i (i + u) = [] from if_neg hp, List.append_nil]; exact hO⟩ Qs
   ·obtain rfl : u = Z.dims.length - i := by omega
    refine Aw (Aa (Aa (Af (Aj ?_))))
    exact AA _ ⟨v3, m3, rfl, rfl, rfl, by rw [HM]; exact hO⟩ Qs
  ·obtain ⟨v3, m3, rfl, rfl, rfl, hO⟩ := hI
   refine Ad (Qm rfl (Qx (oA rfl) rfl (Qm rfl (Ak ?_))))
   exact Al (Z.dims.length - (i + 1)) _ (by omega) ⟨i + 1, v3, m3, rfl, rfl, rfl, rfl, by omega, hO⟩ Qs
 ·obtain rfl : i = Z.dims.length := by omega
  refine AR (t := 17) rfl (fun hs => absurd hs ((by omega))) (fun hs => Qk rfl (Qm rfl (Aq (Bb rfl (Aw (Aa (Aa (Af (Ab (Ax (Qm rfl (Qm rfl (Aq (Ao ?_))))))))))))))
  exact Am rfl rfl (⟨l1, m3, rfl, hO⟩)
end Go.Proofs.YtdnelknieikbaaaGreat
namespace Go.Proofs.YtdnelknieikbaaaGreat
open Go.Eng Go.RowKit Go.Lin Go.Sort Go.Srt
theorem I2 (l : List Int) : vec l.length (fun i => l.getD i 0) = l := List.ext_getElem (by simp [vec]) fun i h1 h2 => by simp [vec, List.getD, h2]
end Go.Proofs.YtdnelknieikbaaaGreat
namespace Go.Proofs.YtdnelknieikbaaaGreat
open Go.Eng Go.RowKit Go.Lin Go.Sort Go.Srt
section
variable {Z Z' : Zz}
theorem I8 {p : Int} {ds : List Int} {A : List Ar} {vdo vao : Value} {md ma mB h : Hp} (hOd : OwnL cI 1 3 md vdo ds) (kd : md.le h) (hOa : OwnL cA 5 45 ma vao A) (ka : ma.le h) (B : BagE A mB) (kB : mB.le h) : RdZ h vdo vao ⟨p, ds, A⟩ := by
 refine ⟨hOd.rdh kd, hOa.rdh ka, fun a ha => ?_⟩
 obtain ⟨k, hk, rfl⟩ := List.mem_iff_getElem.1 ha
 obtain ⟨y, hy, O⟩ := B.all k hk
 have e : A.getD k default = A[k] := by simp [List.getD, hk]
 rw [e] at O
 exact O.rdh (Hp.le_trans hy kB)
end
end Go.Proofs.YtdnelknieikbaaaGreat
set_option maxHeartbeats 800000
namespace Go.Proofs.YtdnelknieikbaaaGreat
open Go.Eng Go.RowKit Go.Lin Go.Sort Go.Srt
section
variable (x : Pl)
end
theorem Pl.mtlB (x : Pl) (k : Nat) : (x.mat k).e.length = x.rows k * x.cols k := by simp [Pl.mat]
end Go.Proofs.YtdnelknieikbaaaGreat
set_option maxHeartbeats 4000000
namespace Go.Proofs.YtdnelknieikbaaaGreat
open Go.Proofs.Tryz
open Go.Eng Go.RowKit Go.Lin Go.Sort Go.Srt
variable {A : List Ar} {mB : Hp} {v : Value}
theorem nx_nomark {P : Program} {w0 : World} {h0 : Hp} {ms0 : List Hp} {n : Nat} {fn : Func} {post : Value → Hp → List Hp → Prop} {s : Ay} {h : Hp} {ms : List Hp} {x : Exit} (hx : x = .normal ∨ x = .ret) (k : NX ⟨P, w0, h0, ms0, n, []⟩ (bodyPost P fn (RP w0 h0 ms0 post)) x s h ms) :
  NX ⟨P, w0, h0, ms0, n, []⟩ (bodyPostM Fence.wide 0 P fn (RP w0 h0 ms0 post)) x s h ms := by
 intro a w ha hw
 have hb := k a w ha hw
 have hd : a.defers = [] := ha.defers
 have goal : LeavesInM Fence.wide 0 P fn a.tmps (RP w0 h0 ms0 post) a.defers .returning w := by
  rw [hd]
  rcases hx with rfl | rfl <;> · obtain ⟨_, v, hr, hR⟩ := hb; exact ⟨v, hr, hR⟩
 rcases hx with rfl | rfl <;> exact goal
theorem zturn_not (Z : Zz) (vd va : Value) (h : Hp) (hO : Z.Ok) (hRt : ¬ Z.Rt) (hR : RdZ h vd va Z) : FnT Tryz.prog 26 #[.agg #[.int .i64 Z.p, vd, va]] h [] (fun r h' ms' => h.le h' ∧ r = .agg #[.int .i64 0, .slice none 0 0, .slice none 0 0]) := by
 have o1 := hR.d.rd.one
 have o2 := hR.a.rd.one
 refine Gd func26 ntmps26 rfl rfl (fun w0 hw0 => ?_)
 simp only [A4]
 refine Ax ?_
 refine AS [_, _, _] rfl rfl (by rfl) rfl rfl rfl (fun g1 => ?_)
 refine BZ [.int .i64 0, .slice none 0 0, .slice none 0 0] rfl Bz rfl rfl (fun g2 => Aq (By 1 rfl fun h1 l1 hS => ?_))
 have hR := hR.up l1
 have hA := Seg.all hS
 have hA0 := hA 0 _ rfl
 refine Ac (Ax (Qx (oG rfl underlying30 Bz (Seg.any hS)) rfl (Qx (AG rfl call35 rfl (Ds (FT Z vd va _ hO hR) _)) rfl (Qm rfl (Aq ?_)))))
 refine BJ rfl (fun hb => ?_) (fun hb => ?_)
 ·refine Ac (Ad ?_)
  refine Qx (AT Sr [.int .i64 0, .slice none 0 0, .slice none 0 0] [] [_, _, _] rfl Bz rfl rfl (by repeat (first | exact trivial | refine ⟨⟨rfl, rfl, rfl⟩, ?_⟩)) rfl) rfl ?_
  refine Sa 0 [_, _, _] Bz rfl (by simp [Value.oneCell']) ?_
  refine Aq (Ao (Ae (nx_nomark (.inr rfl) ?_)))
  exact Cl (vs := [_, _, _]) 0 rfl rfl underlying30 rfl Bz rfl rfl (⟨l1, rfl⟩)
 ·exact absurd (by simpa using hb) hRt
theorem zrank_not (Z : Zz) (vd va : Value) (h : Hp) (hO : Z.Ok) (hRt : ¬ Z.Rt) (hR : RdZ h vd va Z) (ms : List Hp) : Dq Tryz.prog 24 #[.agg #[.int .i64 Z.p, vd, va], .int .i64 0, .int .i64 0] h ms (.int .i64 0) := by
 refine Ds ?_ ms
 have o1 := hR.d.rd.one
 have o2 := hR.a.rd.one
 refine Av func24 ntmps24 rfl rfl (fun w0 hw0 => ?_)
 simp only [A4]
 refine Ax ?_
 refine AS [_, _, _] rfl rfl (by rfl) rfl rfl rfl (fun g3 => ?_)
 refine Qm rfl (Aq (AL fun h1 l1 hS3 => ?_))
 have hR := hR.up l1
 refine Ac (Ax (Qx (oG rfl underlying30 Bz (Seg.any hS3)) rfl (Qx (AG rfl call35 rfl (Ds (FT Z vd va _ hO hR) _)) rfl (Qm rfl (Qm rfl ?_)))))
 refine CO (t := 13) rfl (fun q1 => ?_) (fun q1 => ?_)
 ·refine Qk rfl (Qk rfl (Qm rfl (Qm rfl (Qk rfl (Qk rfl (Qk rfl (Qm rfl (Qm rfl (Qk rfl (Qk rfl (Qk rfl (Qk rfl (Qk rfl (Qm rfl (Aq (AU rfl (Ax (Qm rfl (Aq (Ao (Ae ?_)))))))))))))))))))))
  exact Am rfl rfl (rfl)
 ·exact absurd (by simpa using q1) hRt
theorem zcheck_not (Z : Zz) (vd va vl : Value) (h : Hp) (hO : Z.Ok) (hRt : ¬ Z.Rt) (hR : RdZ h vd va Z) (ol : vl.oneCell' = true) (ms : List Hp) : Dq Tryz.prog 32 #[.agg #[.int .i64 Z.p, vd, va], vl] h ms (.bool false) := by
 refine Ds ?_ ms
 have o1 := hR.d.rd.one
 have o2 := hR.a.rd.one
 refine Av func32 ntmps32 rfl rfl (fun w0 hw0 => ?_)
 simp only [A4]
 refine Ax ?_
 refine AS [_, _, _] rfl rfl (by rfl) rfl rfl rfl (fun g2 => ?_)
 refine Qm rfl (Aq (AL fun h1 l1 hS2 => ?_))
 have hR := hR.up l1
 refine Ac (Ax (Qx (oG rfl underlying30 Bz (Seg.any hS2)) rfl (Qx (AG rfl call35 rfl (Ds (FT Z vd va _ hO hR) _)) rfl (Qm rfl (Qm rfl ?_)))))
 refine CO (t := 19) rfl (fun hb => ?_) (fun hb => ?_)
 ·refine Qk rfl (Qk rfl (Qk rfl (Qk rfl (Qm rfl (Qm rfl (Qk rfl (Qk rfl (Qk rfl (Qk rfl (Qm rfl (Aq (AU rfl (Ax (Qm rfl (Aq (Ao (Ae ?_)))))))))))))))))
  exact Am rfl rfl (rfl)
 ·exact absurd (by simpa using hb) hRt
theorem samezig_nil (h : Hp) (ms : List Hp) : Dq Tryz.prog 27 #[.agg #[.int .i64 0, .slice none 0 0, .slice none 0 0], .agg #[.int .i64 0, .slice none 0 0, .slice none 0 0]] h ms (.bool true) := by
 refine Ds ?_ ms
 have hn : ∀ h ms, Rd h ms (.slice none 0 0) 5 0 [] := fun h ms => Rd.nil _ _ _
 refine Av func27 ntmps27 rfl rfl (fun w0 hw0 => ?_)
 simp only [A4]
 refine Ax ?_
 refine AS [_, _, _] rfl rfl (by rfl) rfl rfl rfl (fun g2 => ?_)
 refine AS [_, _, _] rfl rfl (by rfl) rfl rfl rfl (fun g3 => ?_)
 refine Qm rfl (Aq (AL fun h1 l1 hS3 => (AL fun h2 l2 hS2 => ?_)))
 have hS3 := hS3.le l2
 have hA := Seg.all hS2
 have hA0 := hA 0 _ rfl
 have hB := Seg.all hS3
 have hB0 := hB 0 _ rfl
 refine Ax (Qf Bn rfl (Ql rfl underlying24 (hA _ _ rfl _) (Qf Bn rfl (Ql rfl underlying24 (hB _ _ rfl _) (Qx (AG rfl call54 rfl (SA [] [] _ _ h2 ⟨Rd.nil _ _ _, Br⟩ ⟨Rd.nil _ _ _, Br⟩ _)) rfl (Qm rfl (Aq (Ac (Ax (Qf CG rfl (Ql rfl underlying3 (hA0 _) (Qf CG rfl (Ql rfl underlying3 (hB0 _) (Qm rfl (Qm rfl ?_)))))))))))))))
 refine AR (t := 18) rfl (fun hs1 => ?_) (fun hs1 => ?_)
 ·exact absurd rfl hs1
 ·refine Qg (As rfl rfl) rfl (Qg (CP rfl rfl) rfl (Qm rfl (Qm rfl ?_)))
  refine CO (t := 22) rfl (fun hs2 => ?_) (fun hs2 => ?_)
  ·exact absurd hs2 (by simp)
  ·refine Qg (oF BQ rfl) rfl (Qg (oL rfl underlying28 (hA _ _ rfl _)) rfl (Qg (Ml (ty := 28) rfl underlying28 rfl) rfl (Qg (oF BQ rfl) rfl (Qg (oL rfl underlying28 (hB _ _ rfl _)) rfl (Qg (Ml (ty := 28) rfl underlying28 rfl) rfl (Qg (B4 rfl rfl rfl) rfl (Qm rfl (Aq ?_))))))))
   refine AF rfl (fun hs3 => ?_) (fun hs3 => ?_)
   ·exact absurd rfl hs3
   ·refine Ai (Ab (Ac (Ax (Qm rfl (Aq (Ag ?_))))))
    refine AD (fun q sl hh ms' => q = 0 ∧ sl = [(2, .pointer (some ⟨g2, 0, none⟩)), (3, .pointer (some ⟨g3, 0, none⟩)), (6, .int .i64 0)] ∧ h2 = hh ∧ ms' = [])
     0 _ ⟨rfl, rfl, rfl, rfl⟩ Qs ?_
    rintro q sl hh ms' ⟨rfl, rfl, rfl, rfl⟩
    refine Ac (Ax (Qm rfl (Qf BQ rfl (Ql rfl underlying28 (hA _ _ rfl _) (Qx (Ml (ty := 28) rfl underlying28 rfl) rfl (Qm rfl (Aq ?_)))))))
    refine AF rfl (fun hlt => ?_) (fun hlt => ?_)
    ·exact absurd hlt (by omega)
    ·refine Aw (Aa (Aa (Af (Ab (Ax (Qm rfl (Aq (Ao ?_))))))))
     exact Am rfl rfl (rfl)
theorem ars_ex {mB' h : Hp} (B : BagE A mB) (hS : SimI 3 mB mB') (hb : mB'.le h) : ∃ f : Ar → Ar, (∀ a, cA (f a) = cA a ∧ (f a).M.p = a.M.p ∧ (f a).M.rows = a.M.rows ∧ (f a).M.cols = a.M.cols) ∧ ∀ a ∈ A, RdL cI 1 h [] (f a).v (f a).M.e := by
 have hex : ∀ a : Ar, ∃ a' : Ar, (cA a' = cA a ∧ a'.M.p = a.M.p ∧ a'.M.rows = a.M.rows ∧ a'.M.cols = a.M.cols) ∧ (a ∈ A → RdL cI 1 h [] a'.v a'.M.e) := fun a => by
  by_cases ha : a ∈ A
  ·obtain ⟨k, hk, rfl⟩ := List.mem_iff_getElem.1 ha
   obtain ⟨y, hy, O⟩ := B.all k hk
   have e : A.getD k default = A[k] := by simp [List.getD, hk]
   rw [e] at O
   obtain ⟨y', c', hy', O', _⟩ := O.sim hy hS
   exact ⟨⟨A[k].b, ⟨A[k].M.p, A[k].M.rows, A[k].M.cols, c'⟩, A[k].v⟩, ⟨rfl, rfl, rfl, rfl⟩, fun _ => O'.rdh (Hp.le_trans hy' hb)⟩
  ·exact ⟨a, ⟨rfl, rfl, rfl, rfl⟩, fun h' => absurd h' ha⟩
 obtain ⟨f, hf⟩ := Classical.axiomOfChoice hex
 exact ⟨f, fun a => (hf a).1, fun a ha => (hf a).2 ha⟩
theorem rdl_map {f : Ar → Ar} (hf : ∀ a, cA (f a) = cA a) {h : Hp} (R : RdL cA 5 h [] v A) : RdL cA 5 h [] v (A.map f) := by
 refine ⟨?_, Fm⟩
 have e : (A.map f).flatMap cA = A.flatMap cA := by
  rw [List.flatMap_map]
  exact congrArg (fun g => A.flatMap g) (funext hf)
 rw [e, List.length_map]; exact R.rd
theorem bag_at (B : BagE A mB) {k : Nat} (hk : k < A.length) : ∃ y, y.le mB ∧ OwnL cI 1 3 y A[k].v A[k].M.e := by
 obtain ⟨y, hy, O⟩ := B.all k hk
 have e : A.getD k default = A[k] := by simp [List.getD, hk]
 rw [e] at O
 exact ⟨y, hy, O⟩
theorem bagE_rw {h : Hp} (B : BagE A mB) (kB : mB.le h) : ∀ a ∈ A, RdL cI 1 h [] a.v a.M.e := fun a ha => by
 obtain ⟨k, hk, rfl⟩ := List.mem_iff_getElem.1 ha
 obtain ⟨y, hy, O⟩ := bag_at B hk
 exact O.rdh (Hp.le_trans hy kB)
theorem ent_few {x : Pl} (e : A.map Ar.core = x.core) {k : Nat} (hk : k < A.length) : A[k].M.e.length ≤ 16 := by
 have h2 := congrArg (fun l => l[k]?) e
 simp only [List.getElem?_map, List.getElem?_eq_getElem hk] at h2
 have hk2 : k < x.dims.length - 1 := by have := congrArg List.length e; rw [List.length_map, x.core_len] at this; omega
 have h1 : A[k].core = (x.bk k, x.mat k) := by simpa [Pl.core, hk2] using h2
 have hM : A[k].M = x.mat k := congrArg Prod.snd h1
 have := x.rc_le k
 rw [hM, x.mtlB]
 exact Nat.mul_le_mul this.1 this.2
theorem wl_dropPw {e : Entry} {Q : Exit → Act → World → Prop} {ops : Array Oper} {r : List Oper} {s : Ay} {h : Hp} {ms : List Hp} (k : WL e ops Q r s h ms) : ∀ pre : List Hp, WL e ops Q r s h (pre ++ ms)
 | [] => k
 | m :: pre => Oe 0 rfl (wl_dropPw k pre)
def WFin (g : Nat) (hh : Hp) : Prop := ∃ (vd' va' : Value) (Z' : Zz), Seg hh [] ⟨g, 0, none⟩ [.int .i64 Z'.p, vd', va'] ∧ RdZ hh vd' va' Z' ∧ Z'.Ok ∧ (Z'.Rt → Z'.dims.length ≤ 8)
section
variable {e : Entry} {Q : Exit → Act → World → Prop} {ops : Array Oper} {rest : List Oper} {o : Oper} {s : Ay} {h : Hp} {ms : List Hp}
theorem wl_apI {d : Nat} {bytes : Nat} {x y : Operand} {u : Value} {m : Hp} {l r : List Int} (i : Nat) (O : OwnL cI 1 3 m v l) (R : RdL cI 1 h ms u r) (hb : (l.length + r.length) * bytes ≤ 1000) (hb2 : l.length + r.length ≤ 1000) (ho : o.op = .call { callee := .builtin .append, args := #[x, y], argTypes := #[24, 24] }) (ht : e.P.underlying 24 = some (.slice 3)) (hs : Elem e.P 3 1 (.int .i64 0) bytes)
  (hx : ev s x = some v) (hy : ev s y = some u) (hm : ms[i]? = some m) (hd : o.dst = some d) (hn : Nat.blt d e.n = true) (hg : o.guard = none)
  (K : ∀ v' m', OwnL cI 1 3 m' v' (l ++ r) → WL e ops Q rest ((d, v') :: s) h (ms.set i m')) : WL e ops Q (o :: rest) s h ms :=
 Bm i O R ho ht hs rfl (by decide) hx hy hm Cv (by omega) (by omega) hd hn hg K
theorem wl_stE {x y : Operand} {u z : Value} {bytes j : Nat} {m : Hp} {lq : List Int} {hq : Hp} {mq : List Hp} (i : Nat) (e' : List Int) (O : OwnL cA 5 45 m v A) (R : RdL cI 1 hq mq u lq) (ho : o.op = .store 24 x y) (hs : Elem e.P 24 1 z bytes) (hx : ev s x = some (.pointer (some ((((Bl v).add (j * 5)).add 1).add 3)))) (hy : ev s y = some u)
  (hm : ms[i]? = some m) (hj : j < A.length) (hd : o.dst = none) (hg : o.guard = none)
  (K : ∀ m', OwnL cA 5 45 m' v (A.set j ⟨A[j].b, ⟨A[j].M.p, A[j].M.rows, A[j].M.cols, e'⟩, u⟩) → WL e ops Q rest s h (ms.set i m')) : WL e ops Q (o :: rest) s h ms :=
 wl_storePart i j 4 ⟨A[j].b, ⟨A[j].M.p, A[j].M.rows, A[j].M.cols, e'⟩, u⟩ [u] O ho hs (by rw [show ((Bl v).add (j * 5)).add 4 = (((Bl v).add (j * 5)).add 1).add 3 from (A6 _ 1 3).symm]; exact hx) hy R.rd.cells rfl (fun c hc => by rw [List.mem_singleton.1 hc]; exact R.rd.one) hm hj (by omega) rfl hd hg K
end
theorem modw_v {a b c : Int} (e : a % b = c) (ha : Dh a) (hb : 1 ≤ b ∧ b ≤ 1000000) (h : Hp) (ms : List Hp) : Dq Tryz.prog 34 #[.int .i64 a, .int .i64 b] h ms (.int .i64 c) := e ▸ Ks a b ha hb h ms
theorem Zz.ok_set {Z : Zz} (hO : Z.Ok) {j : Nat} {a : Ar} (ha : a.M.Ok) : (⟨Z.p, Z.dims, Z.ars.set j a⟩ : Zz).Ok := ⟨hO.p, hO.d, fun b hb => by
 rcases List.mem_or_eq_of_mem_set hb with h | rfl
 ·exact hO.m b h
 ·exact ha⟩
theorem lwrong_ok (x : Pl) (vd vs : Value) (q0 q1 q2 : Int) (h : Hp) (hx : x.Ok) (hR : RdP h vd vs x) (hq0 : Dh q0) (hq1 : Dh q1) (hq2 : Dh q2) : FnT Tryz.prog 13 #[.agg #[.int .u8 x.p, vd, .int .u16 x.back, vs, .bool x.thin], .agg #[.int .i64 q0, .int .i64 q1, .int .i64 q2]] h [] (fun r _ _ => r = .bool true) := by
 have o1 := hR.d.rd.one
 have o2 := hR.s.rd.one
 refine Av func13 ntmps13 rfl rfl (fun w0 hw0 => ?_)
 simp only [A4]
 refine Ax ?_
 refine AS [_, _, _, _, _] rfl rfl (by rfl) rfl rfl rfl (fun g2 => ?_)
 refine AS [_, _, _] rfl rfl (by rfl) rfl rfl rfl (fun g3 => ?_)
 refine Qm rfl (B3 (Qx (AG rfl call14 rfl (GW _ _)) rfl (Qm rfl (Aq (AL fun h1 l1 hS3 => (AL fun h2 l2 hS2 => ?_))))))
 have hR := hR.up (Hp.le_trans l1 l2)
 have hS3 := hS3.le l2
 refine Ax (Qx (oG rfl underlying26 ST (Seg.any hS2)) rfl (Qc call15 rfl (Kf x vd vs h2 hx hR) (fun rz h3 ms3 l3 hF => ?_)))
 obtain ⟨l3', vdo, vao, md, ma, mB, A, rfl, rfl, hOd, hOa, hAc, hB⟩ := hF
 have hS3 := hS3.le l3
 have hRt : (⟨x.P, x.dims, A⟩ : Zz).Rt := x.rt rfl rfl hAc
 have hOk := hRt.ok
 have hdn := x.dims_len
 have hal : A.length = x.dims.length - 1 := by have := congrArg List.length hAc; rwa [List.length_map, x.core_len] at this
 have o3 : vdo.oneCell' = true := (hOd.rd (h := h3) (ms := [md]) (List.Mem.head _)).rd.one
 have o4 : vao.oneCell' = true := (hOa.rd (h := h3) (ms := [ma]) (List.Mem.head _)).rd.one
 refine BZ [.int .i64 0, .slice none 0 0, .slice none 0 0] rfl Bz rfl rfl (fun g6 => ?_)
 refine Sa 0 [_, _, _] Bz rfl (by simp [o3, o4]) ?_
 refine Aq (ws_gs (Goes.perm (List.perm_append_comm (l₁ := [_]) (l₂ := [_, _, _]))) (Ax (Qx (oG rfl underlying30 Bz (Seg.blk 3 rfl)) rfl (Bs (pre := [ma, md, mB]) rfl call30 rfl (fnt_whole (fun h' l hm => (strands_ok ⟨x.P, x.dims, A⟩ vdo vao h' hOk hRt (I8 hOd (hm _ (List.Mem.tail _ (List.Mem.head _))) hOa (hm _ (List.Mem.head _)) hB (hm _ (List.Mem.tail _ (List.Mem.tail _ (List.Mem.head _)))))).mono fun r h2 ms2 hh => hh.2)) rfl rfl rfl rfl (fun rs h7 ms7 l7 hF => ?_)))))
 obtain ⟨rfl, _, rfl, N, S, e, L, ml, mL, rfl, hN, hOl, hBg, hp, hV, hbd, hsrt⟩ := hF
 have ors : rs.oneCell' = true := (hOl.rd (h := Hp.emp) (ms := [ml]) (List.Mem.head _)).rd.one
 refine A7 fun h8 l8 k8 => (A7 fun h9 l9 k9 => ?_)
 have hS3 := hS3.le (Hp.le_trans l8 l9)
 have hA30 := Seg.all hS3 0 _ rfl
 have hA31 := Seg.all hS3 1 _ rfl
 have hA32 := Seg.all hS3 2 _ rfl
 obtain ⟨c, hc⟩ : ∃ c : Int, q0 % 7 = c := ⟨_, rfl⟩
 have hcb : 0 ≤ c ∧ c < 7 := by rw [← hc]; exact ⟨Int.emod_nonneg _ (by decide), Int.emod_lt_of_pos _ (by decide)⟩
 refine Qm rfl (Aq ?_)
 refine Bv (fun sl hh ms' => sl = [(5, .bool true), (6, .pointer (some ⟨g6, 0, none⟩)), (7, rs)] ∧ ms' = [] ∧ WFin g6 hh) ?_ (fun s h ms hI => ?_)
 ·refine Ac (Ad (Qx (C8 0 rfl underlying71 A8 rfl rfl rfl (by omega)) rfl (Ql rfl underlying3 (hA30 _) ?_)))
  refine Qx (AG rfl call34 rfl (modw_v hc hq0 ⟨by decide, by decide⟩ _ _)) rfl ?_
  refine Aq (Ag (Ax (Qm rfl (Qm rfl (Aq ?_)))))
  refine AF rfl (fun c0 => ?_) (fun c0 => ?_)
  ·refine By 3 rfl fun h10 l10 hS6 => ?_
   have hA31 := Seg.all (hS3.le l10) 1 _ rfl
   have hA32 := Seg.all (hS3.le l10) 2 _ rfl
   have hA6 := Seg.all hS6
   obtain ⟨j, hj⟩ : ∃ j : Nat, q1 % (x.dims.length : Int) = j := ⟨(q1 % (x.dims.length : Int)).toNat, by have := Int.emod_nonneg q1 (show (x.dims.length : Int) ≠ 0 by omega); omega⟩
   have hjl : j < x.dims.length := by have := Int.emod_lt_of_pos q1 (show 0 < (x.dims.length : Int) by omega); omega
   refine AW (n := 12) (bs := [true, true, true, true, true, true, true, true, true, true, true, false]) [true, true, true, true, true, true, true, true, true, true, true] Cd (by kernel_rfl) (by kernel_rfl) rfl rfl (QF Bn rfl (QL rfl underlying24 (hA6 _ _ rfl _) (Qp rfl (C8 1 rfl underlying71 A8 rfl rfl rfl (by omega)) (QL rfl underlying3 (hA31 _) (QF Bn rfl (QL rfl underlying24 (hA6 _ _ rfl _) (Qp rfl (CH (hOd.rd (h := h10) (ms := [md]) (List.Mem.head _)).rd rfl underlying24 rfl) ?_)))))))
   refine Qp rfl (AG rfl call34 rfl (modw_v hj hq1 ⟨by omega, by omega⟩ _ _)) ?_
   refine Qp rfl (C8 2 rfl underlying71 A8 rfl rfl rfl (by omega)) (QL rfl underlying3 (hA32 _) (Qp rfl (Bo (j) (hOd.rd (h := h10) (ms := [md]) (List.Mem.head _)).rd rfl underlying24 A8 rfl rfl (by omega) (by omega)) ?_))
   unfold CD
   simp only [List.cons_append, List.nil_append]
   refine Qo 11 rfl (Bu 1 j hOd rfl A8 rfl rfl rfl hjl rfl rfl (fun md' hOd' => Qw (Qe (MK fun h11 l11 k11 => (MK fun h12 l12 k12 => (MK fun h13 l13 k13 => ?_))))))
   have l1113 := Hp.le_trans l12 l13
   have l1013 := Hp.le_trans l11 l1113
   exact Aj (AA _ ⟨rfl, rfl, vdo, vao, ⟨x.P, x.dims.set j q2, A⟩, hS6.le l1013, I8 hOd' (Hp.le_trans k12 l13) hOa (Hp.le_trans k11 l1113) hB k13, ⟨hOk.p, fun y hy => by rcases List.mem_or_eq_of_mem_set hy with h | rfl; exact hOk.d y h; exact hq2, hOk.m⟩, fun _ => by show (List.set _ _ _).length ≤ 8; rw [List.length_set]; omega⟩ Qs)
  ·refine Ac (Ad (Qm rfl (Qm rfl (Aq ?_))))
   refine AF rfl (fun c1 => ?_) (fun c1 => ?_)
   ·refine Ad (Qx (C8 2 rfl underlying71 A8 rfl rfl rfl (by omega)) rfl (Ql rfl underlying3 (hA32 _) (Qf CG rfl ?_)))
    refine AK 3 _ rfl A8 rfl rfl (by rfl) rfl rfl (by (simp; done)) rfl rfl ?_
    refine Ak (Aj (MK fun h10 l10 k10 => (MK fun h11 l11 k11 => (MK fun h12 l12 k12 => (MK fun h13 l13 k13 => ?_)))))
    have l1213 := Hp.le_trans l12 l13
    have l1113 := Hp.le_trans l11 l1213
    exact AA _ ⟨rfl, rfl, vdo, vao, ⟨q2, x.dims, A⟩, Seg.ofLe k13, I8 hOd (Hp.le_trans k11 l1213) hOa (Hp.le_trans k10 l1113) hB (Hp.le_trans k12 l13), ⟨hq2, hOk.d, hOk.m⟩, fun _ => by show x.dims.length ≤ 8; omega⟩ Qs
   ·refine Ac (Ad (Qm rfl (Qm rfl (Aq ?_))))
    refine AF rfl (fun c2 => ?_) (fun c2 => ?_)
    ·refine Ad (Qf Bn rfl (Ql rfl underlying24 (Cell.blk 3 rfl rfl) (Qx (C8 2 rfl underlying71 A8 rfl rfl rfl (by omega)) rfl (Ql rfl underlying3 (hA32 _) ?_))))
     refine AB [_] rfl underlying24 A8 rfl (by rfl) rfl rfl (by omega) rfl rfl rfl (fun g43 => ?_)
     refine Bm 2 hOd (RdL.one Br (x := q2) (List.Mem.head _) rfl) rfl underlying24 A8 rfl (by omega) rfl rfl rfl Cv (by (try simp only [List.length_singleton]); omega) (by (try simp only [List.length_singleton]); omega) rfl rfl rfl (fun vd2 md2 hOd2 => ?_)
     have od2 : vd2.oneCell' = true := (hOd2.rd (h := h) (ms := [md2]) (List.Mem.head _)).rd.one
     refine Qf Bn rfl ?_
     refine AK 4 _ rfl BN rfl rfl (by assumption) rfl rfl (by (simp; done)) rfl rfl ?_
     refine Ak (Aj (MK fun h9' l9' k9' => (MK fun h10 l10 k10 => (MK fun h11 l11 k11 => (MK fun h12 l12 k12 => (MK fun h13 l13 k13 => ?_))))))
     have l1213 := Hp.le_trans l12 l13
     have l1113 := Hp.le_trans l11 l1213
     exact AA _ ⟨rfl, rfl, vd2, vao, ⟨x.P, x.dims ++ [q2], A⟩, Seg.ofLe k13, I8 hOd2 (Hp.le_trans k11 l1213) hOa (Hp.le_trans k10 l1113) hB (Hp.le_trans k12 l13), ⟨hOk.p, fun y hy => by rcases List.mem_append.1 hy with h | h; exact hOk.d y h; rw [List.mem_singleton.1 h]; exact hq2, hOk.m⟩, fun q => by have h1 := q.2.2.1; have h2 : ((A.length : Nat) : Int) = ((x.dims ++ [q2]).length : Int) - 1 := h1; rw [List.length_append, List.length_singleton] at h2; omega⟩ Qs
    ·refine Ac (Ad (Qm rfl (Qm rfl (Aq ?_))))
     refine AF rfl (fun c3 => ?_) (fun c3 => ?_)
     ·refine Ad (Qf Bn rfl ?_)
      refine AK 3 _ rfl BN rfl rfl (by rfl) rfl rfl (by (simp; done)) rfl rfl ?_
      refine Ak (Aj (MK fun h10 l10 k10 => (MK fun h11 l11 k11 => (MK fun h12 l12 k12 => (MK fun h13 l13 k13 => ?_)))))
      have l1213 := Hp.le_trans l12 l13
      have l1113 := Hp.le_trans l11 l1213
      have hz := I8 (p := x.P) hOd (Hp.le_trans k11 l1213) hOa (Hp.le_trans k10 l1113) hB (Hp.le_trans k12 l13)
      exact AA _ ⟨rfl, rfl, .slice none 0 0, vao, ⟨x.P, [], A⟩, Seg.ofLe k13, ⟨⟨Rd.nil _ _ _, Br⟩, hz.a, hz.e⟩, ⟨hOk.p, (fun y hy => nomatch hy), hOk.m⟩, fun _ => Nat.zero_le _⟩ Qs
     ·refine Ac (Ad (Qm rfl (Qm rfl (Aq ?_))))
      refine AF rfl (fun c4 => ?_) (fun c4 => ?_)
      ·refine By 3 rfl fun h10 l10 hS6 => (ws_gs (Goes.perm ((List.Perm.swap _ _ _).trans (List.Perm.cons _ (List.Perm.swap _ _ _)))) (Bg hOd fun h11 l11 hRd => (ws_frz fun h12 l12 k12 => ?_)))
       have l1012 := Hp.le_trans l11 l12
       have l912 := Hp.le_trans l10 l1012
       have hRd := hRd.up l12
       have hS6 := hS6.le l1012
       have hA31 := Seg.all (hS3.le l912) 1 _ rfl
       have hA32 := Seg.all (hS3.le l912) 2 _ rfl
       have hA6 := Seg.all hS6
       have hRe : ∀ a ∈ A, RdL cI 1 h12 [] a.v a.M.e := bagE_rw hB k12
       refine Ax (Qf BQ rfl (Ql rfl underlying28 (hA6 _ _ rfl _) (Qx (CH (hOa.rd (h := h12) (ms := [ma]) (List.Mem.head _)).rd rfl underlying28 rfl) rfl (Qm rfl (Aq ?_)))))
       refine AF rfl (fun hla => ?_) (fun hla => ?_)
       ·obtain ⟨j, hj⟩ : ∃ j : Nat, q1 % (A.length : Int) = j := ⟨(q1 % (A.length : Int)).toNat, by have := Int.emod_nonneg q1 (show (A.length : Int) ≠ 0 by omega); omega⟩
        have hjl : j < A.length := by have := Int.emod_lt_of_pos q1 (show 0 < (A.length : Int) by omega); omega
        have hRj := hRe _ (List.getElem_mem hjl)
        have hel := ent_few hAc hjl
        have hMj := hOk.m _ (List.getElem_mem hjl)
        have hO0 : ∀ g, OwnL cI 1 3 (AX g 3 []) (.slice (some ⟨g, 0, none⟩) 0 0) [] := fun g => OwnL.blk (g := g) (el := 3) (F := cI) (l := []) 0 Br rfl (by decide)
        have hb6 : (([] : List Int).length + A[j].M.e.length) * 8 ≤ 1000 := by simp only [List.length_nil]; omega
        have hb6' : ([] : List Int).length + A[j].M.e.length ≤ 1000 := by simp only [List.length_nil]; omega
        have hbA : (([] ++ A[j].M.e).length + [q2].length) * 8 ≤ 1000 := by simp only [List.nil_append, List.length_singleton]; omega
        have hbA' : ([] ++ A[j].M.e).length + [q2].length ≤ 1000 := by simp only [List.nil_append, List.length_singleton]; omega
        have hfin : ∀ (h15 ma' m10 : Hp) (v10 : Value), h12.le h15 → OwnL cA 5 45 ma' vao (A.set j ⟨A[j].b, ⟨A[j].M.p, A[j].M.rows, A[j].M.cols, A[j].M.e ++ [q2]⟩, v10⟩) → ma'.le h15 → OwnL cI 1 3 m10 v10 ([] ++ A[j].M.e ++ [q2]) → m10.le h15 → WFin g6 h15 := fun h15 ma' m10 v10 l1215 hOa' k15 hO10 k10 =>
         ⟨vdo, vao, ⟨x.P, x.dims, A.set j ⟨A[j].b, ⟨A[j].M.p, A[j].M.rows, A[j].M.cols, A[j].M.e ++ [q2]⟩, v10⟩⟩, hS6.le l1215, ⟨hRd.up l1215, hOa'.rdh k15, fun a ha => by
          rcases List.mem_or_eq_of_mem_set ha with h | rfl
          ·exact (hRe a h).up l1215
          ·exact hO10.rdh k10⟩, Zz.ok_set (Z := ⟨x.P, x.dims, A⟩) hOk ⟨hMj.p, hMj.r, hMj.c⟩, fun _ => by show x.dims.length ≤ 8; omega⟩
        have hce : ∀ h ms, ma ∈ ms → Cell h ms ((((Bl vao).add (j * 5)).add 1).add 3) A[j].v := fun h ms hm => by rw [A6]; exact (hOa.rd (h := h) hm).cell hjl (f := 1 + 3) rfl
        have oaj : A[j].v.oneCell' = true := hRj.rd.one
        refine Ac (BB 8 Cd (by kernel_rfl) rfl (Wf BQ rfl (Wl rfl underlying28 (hA6 _ _ rfl _) (AV (C8 1 rfl underlying71 A8 rfl rfl rfl (by omega)) rfl rfl (Wl rfl underlying3 (hA31 _) (Wf BQ rfl (Wl rfl underlying28 (hA6 _ _ rfl _) (AV (CH (hOa.rd (h := h12) (ms := [ma]) (List.Mem.head _)).rd rfl underlying28 rfl) rfl rfl ?_))))))))
        refine AV (AG rfl call34 rfl (modw_v hj hq1 ⟨by omega, by omega⟩ _ _)) rfl rfl ?_
        refine BC (Qx (Bo (j) (hOa.rd (h := h12) (ms := [ma]) (List.Mem.head _)).rd rfl underlying28 Cr rfl rfl (by omega) (by omega)) rfl (Qf Ca rfl (Qm rfl (Aq (AW (n := 14) (bs := [true, false, true, true, true, false, false, true, true, false, false, true, true, false]) [true, false, true, true, true, false, false, true, true, false, false, true, true] Cd (by kernel_rfl) (by kernel_rfl) rfl rfl (Qq rfl (Qq rfl (Qq rfl (QF Bc rfl (Qp rfl (C8 2 rfl underlying71 A8 rfl rfl rfl (by omega)) (QL rfl underlying3 (hA32 _) (Qq rfl (QF Bc rfl ?_)))))))))))))
        unfold CD
        simp only [List.cons_append, List.nil_append]
        refine A2 [1, 5, 9] (by kernel_rfl) rfl ?_
        refine Az rfl ?_ ?_
        ·refine AZ [] [] [] rfl underlying24 A8 rfl (by omega) (by kernel_rfl) (by repeat (first | exact trivial | refine ⟨⟨by first | rfl | exact Rd.cells ‹_› | exact (RdL.rd ‹_›).cells, rfl, rfl⟩, ?_⟩)) rfl rfl rfl rfl (fun g66 => ?_)
         refine Qw (A2 [5, 9] (by kernel_rfl) rfl ?_)
         refine Az rfl ?_ ?_
         ·refine Ql rfl underlying24 (hce _ _ (by repeat (first | exact List.Mem.head _ | refine List.Mem.tail _ ?_))) ?_
          refine Qw (A2 [6, 9] (by kernel_rfl) rfl ?_)
          refine Az rfl ?_ ?_
          ·refine wl_apI 0 (hO0 g66) hRj.any hb6 hb6' rfl underlying24 A8 rfl rfl rfl rfl rfl rfl (fun v6 m6 hO6 => Qw ?_)
           have ov6 : v6.oneCell' = true := (hO6.rd (h := h12) (ms := [m6]) (List.Mem.head _)).rd.one
           refine Qo 9 rfl ?_
           refine AB [_] rfl underlying24 A8 rfl (by rfl) rfl rfl (by omega) rfl rfl rfl (fun g74 => ?_)
           refine Qw (Qo 10 rfl ?_)
           refine wl_apI 1 hO6 (RdL.one (g := g74) Br (x := q2) (by repeat (first | exact List.Mem.head _ | refine List.Mem.tail _ ?_)) rfl) hbA hbA' rfl underlying24 A8 rfl rfl rfl rfl rfl rfl (fun v10 m10 hO10 => ?_)
           refine Qw ?_
           have hR10 := hO10.rd (h := h12) (ms := [m10]) (List.Mem.head _)
           have ov10 := hR10.rd.one
           refine Qo 13 rfl (wl_stE 2 (A[j].M.e ++ [q2]) hOa hR10 rfl BN rfl rfl rfl hjl rfl rfl (fun ma' hOa' => Qw (Qe (MK fun h13 l13 k13 => (MK fun h14 l14 k14 => (MK fun h15 l15 k15 => ?_))))))
           exact Aj (AA _ ⟨rfl, rfl, hfin _ _ _ _ (Hp.le_trans l13 (Hp.le_trans l14 l15)) hOa' k15 hO10 (Hp.le_trans k14 l15)⟩ Qs)
          refine Az rfl ?_ ?_
          ·refine AB [_] rfl underlying24 A8 rfl (by rfl) rfl rfl (by omega) rfl rfl rfl (fun g74 => ?_)
           refine Qw (Qo 6 rfl (wl_apI 1 (hO0 g66) hRj.any hb6 hb6' rfl underlying24 A8 rfl rfl rfl rfl rfl rfl (fun v6 m6 hO6 => Qw ?_)))
           have ov6 : v6.oneCell' = true := (hO6.rd (h := h12) (ms := [m6]) (List.Mem.head _)).rd.one
           refine Qo 10 rfl ?_
           refine wl_apI 1 hO6 (RdL.one (g := g74) Br (x := q2) (by repeat (first | exact List.Mem.head _ | refine List.Mem.tail _ ?_)) rfl) hbA hbA' rfl underlying24 A8 rfl rfl rfl rfl rfl rfl (fun v10 m10 hO10 => ?_)
           refine Qw ?_
           have hR10 := hO10.rd (h := h12) (ms := [m10]) (List.Mem.head _)
           have ov10 := hR10.rd.one
           refine Qo 13 rfl (wl_stE 2 (A[j].M.e ++ [q2]) hOa hR10 rfl BN rfl rfl rfl hjl rfl rfl (fun ma' hOa' => Qw (Qe (MK fun h13 l13 k13 => (MK fun h14 l14 k14 => (MK fun h15 l15 k15 => ?_))))))
           exact Aj (AA _ ⟨rfl, rfl, hfin _ _ _ _ (Hp.le_trans l13 (Hp.le_trans l14 l15)) hOa' k15 hO10 (Hp.le_trans k14 l15)⟩ Qs)
          exact A3
         refine Az rfl ?_ ?_
         ·refine AB [_] rfl underlying24 A8 rfl (by rfl) rfl rfl (by omega) rfl rfl rfl (fun g74 => ?_)
          refine Qw (Qo 5 rfl ?_)
          refine Ql rfl underlying24 (hce _ _ (by repeat (first | exact List.Mem.head _ | refine List.Mem.tail _ ?_))) ?_
          refine Qw (Qo 6 rfl (wl_apI 1 (hO0 g66) hRj.any hb6 hb6' rfl underlying24 A8 rfl rfl rfl rfl rfl rfl (fun v6 m6 hO6 => Qw ?_)))
          have ov6 : v6.oneCell' = true := (hO6.rd (h := h12) (ms := [m6]) (List.Mem.head _)).rd.one
          refine Qo 10 rfl ?_
          refine wl_apI 1 hO6 (RdL.one (g := g74) Br (x := q2) (by repeat (first | exact List.Mem.head _ | refine List.Mem.tail _ ?_)) rfl) hbA hbA' rfl underlying24 A8 rfl rfl rfl rfl rfl rfl (fun v10 m10 hO10 => ?_)
          refine Qw ?_
          have hR10 := hO10.rd (h := h12) (ms := [m10]) (List.Mem.head _)
          have ov10 := hR10.rd.one
          refine Qo 13 rfl (wl_stE 2 (A[j].M.e ++ [q2]) hOa hR10 rfl BN rfl rfl rfl hjl rfl rfl (fun ma' hOa' => Qw (Qe (MK fun h13 l13 k13 => (MK fun h14 l14 k14 => (MK fun h15 l15 k15 => ?_))))))
          exact Aj (AA _ ⟨rfl, rfl, hfin _ _ _ _ (Hp.le_trans l13 (Hp.le_trans l14 l15)) hOa' k15 hO10 (Hp.le_trans k14 l15)⟩ Qs)
         exact A3
        refine Az rfl ?_ ?_
        ·refine Ql rfl underlying24 (hce _ _ (by repeat (first | exact List.Mem.head _ | refine List.Mem.tail _ ?_))) ?_
         refine Qw (A2 [1, 9] (by kernel_rfl) rfl ?_)
         refine Az rfl ?_ ?_
         ·refine AZ [] [] [] rfl underlying24 A8 rfl (by omega) (by kernel_rfl) (by repeat (first | exact trivial | refine ⟨⟨by first | rfl | exact Rd.cells ‹_› | exact (RdL.rd ‹_›).cells, rfl, rfl⟩, ?_⟩)) rfl rfl rfl rfl (fun g66 => ?_)
          refine Qw (A2 [6, 9] (by kernel_rfl) rfl ?_)
          refine Az rfl ?_ ?_
          ·refine wl_apI 0 (hO0 g66) hRj.any hb6 hb6' rfl underlying24 A8 rfl rfl rfl rfl rfl rfl (fun v6 m6 hO6 => Qw ?_)
           have ov6 : v6.oneCell' = true := (hO6.rd (h := h12) (ms := [m6]) (List.Mem.head _)).rd.one
           refine Qo 9 rfl ?_
           refine AB [_] rfl underlying24 A8 rfl (by rfl) rfl rfl (by omega) rfl rfl rfl (fun g74 => ?_)
           refine Qw (Qo 10 rfl ?_)
           refine wl_apI 1 hO6 (RdL.one (g := g74) Br (x := q2) (by repeat (first | exact List.Mem.head _ | refine List.Mem.tail _ ?_)) rfl) hbA hbA' rfl underlying24 A8 rfl rfl rfl rfl rfl rfl (fun v10 m10 hO10 => ?_)
           refine Qw ?_
           have hR10 := hO10.rd (h := h12) (ms := [m10]) (List.Mem.head _)
           have ov10 := hR10.rd.one
           refine Qo 13 rfl (wl_stE 2 (A[j].M.e ++ [q2]) hOa hR10 rfl BN rfl rfl rfl hjl rfl rfl (fun ma' hOa' => Qw (Qe (MK fun h13 l13 k13 => (MK fun h14 l14 k14 => (MK fun h15 l15 k15 => ?_))))))
           exact Aj (AA _ ⟨rfl, rfl, hfin _ _ _ _ (Hp.le_trans l13 (Hp.le_trans l14 l15)) hOa' k15 hO10 (Hp.le_trans k14 l15)⟩ Qs)
          refine Az rfl ?_ ?_
          ·refine AB [_] rfl underlying24 A8 rfl (by rfl) rfl rfl (by omega) rfl rfl rfl (fun g74 => ?_)
           refine Qw (Qo 6 rfl (wl_apI 1 (hO0 g66) hRj.any hb6 hb6' rfl underlying24 A8 rfl rfl rfl rfl rfl rfl (fun v6 m6 hO6 => Qw ?_)))
           have ov6 : v6.oneCell' = true := (hO6.rd (h := h12) (ms := [m6]) (List.Mem.head _)).rd.one
           refine Qo 10 rfl ?_
           refine wl_apI 1 hO6 (RdL.one (g := g74) Br (x := q2) (by repeat (first | exact List.Mem.head _ | refine List.Mem.tail _ ?_)) rfl) hbA hbA' rfl underlying24 A8 rfl rfl rfl rfl rfl rfl (fun v10 m10 hO10 => ?_)
           refine Qw ?_
           have hR10 := hO10.rd (h := h12) (ms := [m10]) (List.Mem.head _)
           have ov10 := hR10.rd.one
           refine Qo 13 rfl (wl_stE 2 (A[j].M.e ++ [q2]) hOa hR10 rfl BN rfl rfl rfl hjl rfl rfl (fun ma' hOa' => Qw (Qe (MK fun h13 l13 k13 => (MK fun h14 l14 k14 => (MK fun h15 l15 k15 => ?_))))))
           exact Aj (AA _ ⟨rfl, rfl, hfin _ _ _ _ (Hp.le_trans l13 (Hp.le_trans l14 l15)) hOa' k15 hO10 (Hp.le_trans k14 l15)⟩ Qs)
          exact A3
         refine Az rfl ?_ ?_
         ·refine AB [_] rfl underlying24 A8 rfl (by rfl) rfl rfl (by omega) rfl rfl rfl (fun g74 => ?_)
          refine Qw (Qo 1 rfl ?_)
          refine AZ [] [] [] rfl underlying24 A8 rfl (by omega) (by kernel_rfl) (by repeat (first | exact trivial | refine ⟨⟨by first | rfl | exact Rd.cells ‹_› | exact (RdL.rd ‹_›).cells, rfl, rfl⟩, ?_⟩)) rfl rfl rfl rfl (fun g66 => ?_)
          refine Qw (Qo 6 rfl (wl_apI 0 (hO0 g66) hRj.any hb6 hb6' rfl underlying24 A8 rfl rfl rfl rfl rfl rfl (fun v6 m6 hO6 => Qw ?_)))
          have ov6 : v6.oneCell' = true := (hO6.rd (h := h12) (ms := [m6]) (List.Mem.head _)).rd.one
          refine Qo 10 rfl ?_
          refine wl_apI 0 hO6 (RdL.one (g := g74) Br (x := q2) (by repeat (first | exact List.Mem.head _ | refine List.Mem.tail _ ?_)) rfl) hbA hbA' rfl underlying24 A8 rfl rfl rfl rfl rfl rfl (fun v10 m10 hO10 => ?_)
          refine Qw ?_
          have hR10 := hO10.rd (h := h12) (ms := [m10]) (List.Mem.head _)
          have ov10 := hR10.rd.one
          refine Qo 13 rfl (wl_stE 2 (A[j].M.e ++ [q2]) hOa hR10 rfl BN rfl rfl rfl hjl rfl rfl (fun ma' hOa' => Qw (Qe (MK fun h13 l13 k13 => (MK fun h14 l14 k14 => (MK fun h15 l15 k15 => ?_))))))
          exact Aj (AA _ ⟨rfl, rfl, hfin _ _ _ _ (Hp.le_trans l13 (Hp.le_trans l14 l15)) hOa' k15 hO10 (Hp.le_trans k13 (Hp.le_trans l14 l15))⟩ Qs)
         exact A3
        refine Az rfl ?_ ?_
        ·refine AB [_] rfl underlying24 A8 rfl (by rfl) rfl rfl (by omega) rfl rfl rfl (fun g74 => ?_)
         refine Qw (A2 [1, 5] (by kernel_rfl) rfl ?_)
         refine Az rfl ?_ ?_
         ·refine AZ [] [] [] rfl underlying24 A8 rfl (by omega) (by kernel_rfl) (by repeat (first | exact trivial | refine ⟨⟨by first | rfl | exact Rd.cells ‹_› | exact (RdL.rd ‹_›).cells, rfl, rfl⟩, ?_⟩)) rfl rfl rfl rfl (fun g66 => ?_)
          refine Qw (Qo 5 rfl ?_)
          refine Ql rfl underlying24 (hce _ _ (by repeat (first | exact List.Mem.head _ | refine List.Mem.tail _ ?_))) ?_
          refine Qw (Qo 6 rfl (wl_apI 0 (hO0 g66) hRj.any hb6 hb6' rfl underlying24 A8 rfl rfl rfl rfl rfl rfl (fun v6 m6 hO6 => Qw ?_)))
          have ov6 : v6.oneCell' = true := (hO6.rd (h := h12) (ms := [m6]) (List.Mem.head _)).rd.one
          refine Qo 10 rfl ?_
          refine wl_apI 0 hO6 (RdL.one (g := g74) Br (x := q2) (by repeat (first | exact List.Mem.head _ | refine List.Mem.tail _ ?_)) rfl) hbA hbA' rfl underlying24 A8 rfl rfl rfl rfl rfl rfl (fun v10 m10 hO10 => ?_)
          refine Qw ?_
          have hR10 := hO10.rd (h := h12) (ms := [m10]) (List.Mem.head _)
          have ov10 := hR10.rd.one
          refine Qo 13 rfl (wl_stE 2 (A[j].M.e ++ [q2]) hOa hR10 rfl BN rfl rfl rfl hjl rfl rfl (fun ma' hOa' => Qw (Qe (MK fun h13 l13 k13 => (MK fun h14 l14 k14 => (MK fun h15 l15 k15 => ?_))))))
          exact Aj (AA _ ⟨rfl, rfl, hfin _ _ _ _ (Hp.le_trans l13 (Hp.le_trans l14 l15)) hOa' k15 hO10 (Hp.le_trans k13 (Hp.le_trans l14 l15))⟩ Qs)
         refine Az rfl ?_ ?_
         ·refine Ql rfl underlying24 (hce _ _ (by repeat (first | exact List.Mem.head _ | refine List.Mem.tail _ ?_))) ?_
          refine Qw (Qo 1 rfl ?_)
          refine AZ [] [] [] rfl underlying24 A8 rfl (by omega) (by kernel_rfl) (by repeat (first | exact trivial | refine ⟨⟨by first | rfl | exact Rd.cells ‹_› | exact (RdL.rd ‹_›).cells, rfl, rfl⟩, ?_⟩)) rfl rfl rfl rfl (fun g66 => ?_)
          refine Qw (Qo 6 rfl (wl_apI 0 (hO0 g66) hRj.any hb6 hb6' rfl underlying24 A8 rfl rfl rfl rfl rfl rfl (fun v6 m6 hO6 => Qw ?_)))
          have ov6 : v6.oneCell' = true := (hO6.rd (h := h12) (ms := [m6]) (List.Mem.head _)).rd.one
          refine Qo 10 rfl ?_
          refine wl_apI 0 hO6 (RdL.one (g := g74) Br (x := q2) (by repeat (first | exact List.Mem.head _ | refine List.Mem.tail _ ?_)) rfl) hbA hbA' rfl underlying24 A8 rfl rfl rfl rfl rfl rfl (fun v10 m10 hO10 => ?_)
          refine Qw ?_
          have hR10 := hO10.rd (h := h12) (ms := [m10]) (List.Mem.head _)
          have ov10 := hR10.rd.one
          refine Qo 13 rfl (wl_stE 2 (A[j].M.e ++ [q2]) hOa hR10 rfl BN rfl rfl rfl hjl rfl rfl (fun ma' hOa' => Qw (Qe (MK fun h13 l13 k13 => (MK fun h14 l14 k14 => (MK fun h15 l15 k15 => ?_))))))
          exact Aj (AA _ ⟨rfl, rfl, hfin _ _ _ _ (Hp.le_trans l13 (Hp.le_trans l14 l15)) hOa' k15 hO10 (Hp.le_trans k13 (Hp.le_trans l14 l15))⟩ Qs)
         exact A3
        exact A3
       ·refine Ai (Aj (CW hOa fun h13 l13 hRa => ?_))
        exact AA _ ⟨rfl, rfl, vdo, vao, ⟨x.P, x.dims, A⟩, hS6.le l13, ⟨hRd.up l13, hRa, fun a ha => (hRe a ha).up l13⟩, hOk, fun _ => by show x.dims.length ≤ 8; omega⟩ Qs
      ·refine Ac (Ad (Qm rfl (Qm rfl (Aq ?_))))
       refine AF rfl (fun c5 => ?_) (fun c5 => ?_)
       ·refine By 3 rfl fun h10 l10 hS6 => (Bg hOa fun h11 l11 hRa => (Bg hOd fun h12 l12 hRd => ?_))
        have l1012 := Hp.le_trans l11 l12
        have l912 := Hp.le_trans l10 l1012
        have hRa := hRa.up l12
        have hS6 := hS6.le l1012
        have hA31 := Seg.all (hS3.le l912) 1 _ rfl
        have hA32 := Seg.all (hS3.le l912) 2 _ rfl
        have hA6 := Seg.all hS6
        refine Ax (Qf BQ rfl (Ql rfl underlying28 (hA6 _ _ rfl _) (Qx (AJ hRa.rd.any rfl underlying28 rfl) rfl (Qm rfl (Aq ?_)))))
        refine AF rfl (fun hla => ?_) (fun hla => ?_)
        ·obtain ⟨j, hj⟩ : ∃ j : Nat, q1 % (A.length : Int) = j := ⟨(q1 % (A.length : Int)).toNat, by have := Int.emod_nonneg q1 (show (A.length : Int) ≠ 0 by omega); omega⟩
         have hjl : j < A.length := by have := Int.emod_lt_of_pos q1 (show 0 < (A.length : Int) by omega); omega
         obtain ⟨y, hy, hOy⟩ := bag_at hB hjl
         have hce : ∀ ms, Cell h12 ms ((((Bl vao).add (j * 5)).add 1).add 3) A[j].v := fun ms => by rw [A6]; exact (hRa.any (ms := ms)).cell hjl (f := 1 + 3) rfl
         have oaj : A[j].v.oneCell' = true := (hOy.rd (h := h12) (ms := [y]) (List.Mem.head _)).rd.one
         refine Ac (BB 8 Cd (by kernel_rfl) rfl (Wf BQ rfl (Wl rfl underlying28 (hA6 _ _ rfl _) (AV (C8 1 rfl underlying71 A8 rfl rfl rfl (by omega)) rfl rfl (Wl rfl underlying3 (hA31 _) (Wf BQ rfl (Wl rfl underlying28 (hA6 _ _ rfl _) (AV (AJ hRa.rd.any rfl underlying28 rfl) rfl rfl ?_))))))))
         refine AV (AG rfl call34 rfl (modw_v hj hq1 ⟨by omega, by omega⟩ _ _)) rfl rfl ?_
         refine BC (Qx (Ah (j) hRa.rd.any rfl underlying28 Cr rfl rfl (by omega) (by omega)) rfl (Qf Ca rfl (Qm rfl (B3 (Qm rfl (Qm rfl (Qf Bc rfl (Ql rfl underlying24 (hce _) (Qx (CH (hOy.rd (h := h12) (ms := [y]) (List.Mem.head _)).rd rfl underlying24 rfl) rfl (Qm rfl (Aq ?_)))))))))))
         refine AF rfl (fun hel => ?_) (fun hel => ?_)
         ·refine AW (n := 8) (bs := [true, true, true, true, true, true, true, false]) [true, true, true, true, true, true, true] Cd (by kernel_rfl) (by kernel_rfl) rfl rfl (Qq rfl (Qq rfl (QF Bc rfl (QL rfl underlying24 (hce _) (Qp rfl (C8 2 rfl underlying71 A8 rfl rfl rfl (by omega)) (QL rfl underlying3 (hA32 _) (Qp rfl (Bo (0) (hOy.rd (h := h12) (ms := [y]) (List.Mem.head _)).rd rfl underlying24 A8 rfl rfl (by omega) (by omega)) ?_)))))))
          unfold CD
          simp only [List.cons_append, List.nil_append]
          refine Qo 7 rfl (wl_storeIn 0 hOy hy (SimI.refl _ _) rfl A8 rfl rfl (by omega) rfl rfl (fun mB' hS' => Qw (Qe (MK fun h13 l13 k13 => ?_))))
          obtain ⟨f, hf, hfe⟩ := ars_ex hB hS' k13
          exact Aj (AA _ ⟨rfl, rfl, vdo, vao, ⟨x.P, x.dims, A.map f⟩, hS6.le l13, ⟨hRd.up l13, rdl_map (fun a => (hf a).1) (hRa.up l13), fun a ha => by obtain ⟨b, hb, rfl⟩ := List.mem_map.1 ha; exact hfe b hb⟩, ⟨hOk.p, hOk.d, fun a ha => by obtain ⟨b, hb, rfl⟩ := List.mem_map.1 ha; have := hOk.m b hb; exact ⟨by rw [(hf b).2.1]; exact this.p, by rw [(hf b).2.2.1]; exact this.r, by rw [(hf b).2.2.2]; exact this.c⟩⟩, fun _ => by show x.dims.length ≤ 8; omega⟩ Qs)
         ·refine Ai (Aj (MK fun h13 l13 k13 => ?_))
          exact AA _ ⟨rfl, rfl, vdo, vao, ⟨x.P, x.dims, A⟩, hS6.le l13, ⟨hRd.up l13, hRa.up l13, bagE_rw hB k13⟩, hOk, fun _ => by show x.dims.length ≤ 8; omega⟩ Qs
        ·refine Ai (Aj (MK fun h13 l13 k13 => ?_))
         exact AA _ ⟨rfl, rfl, vdo, vao, ⟨x.P, x.dims, A⟩, hS6.le l13, ⟨hRd.up l13, hRa.up l13, bagE_rw hB k13⟩, hOk, fun _ => by show x.dims.length ≤ 8; omega⟩ Qs
       ·refine Ac (Ad (Qm rfl (Qm rfl (Aq ?_))))
        refine AF rfl (fun c6 => ?_) (fun c6 => ?_)
        ·refine By 3 rfl fun h10 l10 hS6 => ?_
         have hA6 := Seg.all hS6
         have oav : vao.oneCell' = true := (hOa.rd (h := h10) (ms := [ma]) (List.Mem.head _)).rd.one
         refine Ax (Qf BQ rfl (Ql rfl underlying28 (hA6 _ _ rfl _) (Qx (CH (hOa.rd (h := h10) (ms := [ma]) (List.Mem.head _)).rd rfl underlying28 rfl) rfl (Qm rfl (Aq ?_)))))
         refine AF rfl (fun hla => ?_) (fun hla => ?_)
         ·have hla' : 0 < A.length := by omega
          have hcb0 : ∀ h ms, ma ∈ ms → Cell h ms ((Bl vao).add (0 * 5)) (.bool A[0].b) := fun h ms hm => (hOa.rd (h := h) hm).cell0 hla' rfl
          refine AW (n := 11) (bs := [true, true, true, true, true, true, false, false, true, true, false]) [true, true, true, true, true, true, false, false, true, true] Cd (by kernel_rfl) (by kernel_rfl) rfl rfl (QF BQ rfl (QL rfl underlying28 (hA6 _ _ rfl _) (QF BQ rfl (QL rfl underlying28 (hA6 _ _ rfl _) (Qp rfl (Bo (0) (hOa.rd (h := h10) (ms := [ma]) (List.Mem.head _)).rd rfl underlying28 Cr rfl rfl (by omega) (by omega)) (QF EK rfl (Qp rfl (Bo (0) (hOa.rd (h := h10) (ms := [ma]) (List.Mem.head _)).rd rfl underlying28 Cr rfl rfl (by omega) (by omega)) (QF EK rfl ?_))))))))
          unfold CD
          simp only [List.cons_append, List.nil_append]
          refine Qo 6 rfl ?_
          refine Ql rfl underlying4 (hcb0 _ _ (by repeat (first | exact List.Mem.head _ | refine List.Mem.tail _ ?_))) ?_
          refine Qw (An 7 120 (by kernel_rfl) rfl (Hp.le_refl _) rfl (CP rfl rfl) (Qo 10 rfl ?_))
          refine wl_storePart 0 0 0 ⟨!A[0].b, A[0].M, A[0].v⟩ [.bool (!A[0].b)] hOa rfl el4 (by rw [DK]; rfl) rfl rfl rfl (by simp [Value.oneCell']) rfl hla' (by omega) rfl rfl rfl (fun ma' hOa' => ?_)
          refine Qw (Qe (MK fun h11 l11 k11 => (MK fun h12 l12 k12 => (MK fun h13 l13 k13 => ?_))))
          have l1113 := Hp.le_trans l12 l13
          have l1013 := Hp.le_trans l11 l1113
          have hE := bagE_rw hB k13
          exact Aj (AA _ ⟨rfl, rfl, vdo, vao, ⟨x.P, x.dims, A.set 0 ⟨!A[0].b, A[0].M, A[0].v⟩⟩, hS6.le l1013, ⟨hOd.rdh (Hp.le_trans k12 l13), hOa'.rdh (Hp.le_trans k11 l1113), fun a ha => by rcases List.mem_or_eq_of_mem_set ha with h | rfl; exact hE a h; exact hE A[0] (List.getElem_mem hla')⟩, Zz.ok_set (Z := ⟨x.P, x.dims, A⟩) hOk (hOk.m A[0] (List.getElem_mem hla')), fun _ => by show x.dims.length ≤ 8; omega⟩ Qs)
         ·refine Ai (Aj (MK fun h11 l11 k11 => (MK fun h12 l12 k12 => (MK fun h13 l13 k13 => ?_))))
          have l1113 := Hp.le_trans l12 l13
          have l1013 := Hp.le_trans l11 l1113
          exact AA _ ⟨rfl, rfl, vdo, vao, ⟨x.P, x.dims, A⟩, hS6.le l1013, I8 hOd (Hp.le_trans k12 l13) hOa (Hp.le_trans k11 l1113) hB k13, hOk, fun _ => by show x.dims.length ≤ 8; omega⟩ Qs
        ·exact absurd hcb (by omega)
 ·obtain ⟨rfl, rfl, vd', va', Z', hS6, hRZ, hOk', hd8⟩ := hI
  have od' := hRZ.d.rd.one
  have oa' := hRZ.a.rd.one
  refine Ax (Qx (oG rfl underlying30 Bz (Seg.any hS6)) rfl (Qx (AG rfl call22 rfl (Ds (Ff Z' vd' va' _ hOk' hRZ) _)) rfl (Qm rfl (Aq (Ac (Ax (Qx (oG rfl underlying30 Bz (Seg.any hS6)) rfl (Qx (AG rfl call35 rfl (Ds (FT Z' vd' va' _ hOk' hRZ) _)) rfl (Qm rfl (Qx (UQ rfl underlying4 rfl rfl) rfl (Aq ?_)))))))))))
  refine BJ rfl (fun hne => ?_) (fun hne => ?_)
  ·exact absurd hne (by simp)
  ·refine Ai (Ab (Ac (Ax (Qm rfl (Aq ?_)))))
   refine AF rfl (fun hrt => ?_) (fun hrt => ?_)
   ·have hlit : (.bool (decide Z'.Rt) : Value) = .bool true := congrArg Value.bool (decide_eq_true hrt)
    have hdl := hRZ.d.len_le
    have hd8 := hd8 hrt
    have o7 := hRZ.d.rd.one
    refine Ac (AW (n := 15) (bs := [true, false, false, false, false, false, false, false, false, false, false, false, false, false, false]) [true] Cd (by kernel_rfl) (by kernel_rfl) rfl rfl (Qq rfl ?_))
    unfold CD
    simp only [List.cons_append, List.nil_append]
    refine Qo 1 rfl (Qm rfl (Qw (BH 2 132 (by kernel_rfl) rfl rfl rfl rfl rfl (Hp.le_refl _) rfl (oF Bn rfl) (BH 3 133 (by kernel_rfl) rfl rfl rfl rfl rfl (Hp.le_refl _) rfl (oL rfl underlying24 (Seg.all hS6 _ _ rfl _)) (BH 4 134 (by kernel_rfl) rfl rfl rfl rfl rfl (Hp.le_refl _) rfl (AJ hRZ.d.rd.any rfl underlying24 rfl) (BH 5 135 (by kernel_rfl) rfl rfl rfl rfl rfl (Hp.le_refl _) rfl (GM (Dd rfl rfl rfl) (congrArg Value.bool (decide_eq_false (by omega)))) (Qo 6 rfl (Qg (As rfl rfl) rfl (Qw (BH 7 137 (by kernel_rfl) rfl rfl rfl rfl rfl (Hp.le_refl _) rfl (oG rfl underlying30 Bz (Seg.any hS6)) (BH 9 139 (by kernel_rfl) rfl rfl rfl rfl rfl (Hp.le_refl _) rfl (oG rfl underlying30 Bz (Seg.any hS6)) (Qo 8 rfl (Ce rfl rfl rfl rfl (Qc call17 rfl (Hn Z' vd' va' _ hOk' hRZ) (fun rb h11 ms11 l11 hF => ?_)))))))))))))))
    obtain ⟨l11', bl, mb, lst, rfl, hOb, hlb, hSp, hBs⟩ := hF
    obtain ⟨D, V, hb⟩ := (GH hSp hBs).2 hrt
    refine AH hOb fun h12 l12 hRb => ?_
    have hcurA := Hp.le_trans l11 l12
    refine Qa (Qo 10 rfl (Ce rfl rfl rfl rfl (Qc call18 rfl (Qr Z' D vd' va' _ hrt (hRZ.up hcurA) V) (fun rc h13 ms13 l13 hF => ?_))))
    obtain ⟨l13', mc, rfl, hOc⟩ := hF
    refine AH hOc fun h14 l14 hRc => ?_
    have hRb := hRb.up (Hp.le_trans l13 l14)
    have heq := Jn hb (Pf D.ct Z'.dims.length (Wb V)) fun a => rfl
    have hcur := Hp.le_trans hcurA (Hp.le_trans l13 l14)
    refine Qa (Qo 11 rfl (Qg (AG rfl call16 rfl (Sy hRb hRc heq _)) rfl (Qa (Qo 12 rfl (Qg (JJ rfl rfl rfl) rfl (Qa (Qo 13 rfl (Qm rfl (Qa (Qo 14 rfl (Qm rfl (Qa (Qe (Ab (Ao ?_)))))))))))))))
    exact Am rfl rfl rfl
   ·refine Ai (Ab ?_)
    have hRZ0 := hRZ
    refine Ac (AW (n := 29) (bs := [true, false, false, false, false, false, false, false, false, false, false, false, false, false, false, false, false, false, false, false, false, false, false, false, false, false, false, false, false]) [true] Cd (by kernel_rfl) (by kernel_rfl) rfl rfl (Qq rfl ?_))
    unfold CD
    simp only [List.cons_append, List.nil_append]
    refine Qo 1 rfl (Qm rfl (Qw (BH 2 146 (by kernel_rfl) rfl rfl rfl rfl rfl (Hp.le_refl _) rfl (oG rfl underlying30 Bz (Seg.any hS6)) (BH 5 149 (by kernel_rfl) rfl rfl rfl rfl rfl (Hp.le_refl _) rfl (oG rfl underlying30 Bz (Seg.any hS6)) (Qo 3 rfl (Ce rfl rfl rfl rfl (Qc call17 rfl (Hn Z' vd' va' _ hOk' hRZ) (fun rb h11 ms11 l11 hF => ?_))))))))
    obtain ⟨l11', bl, mb, lst, rfl, hOb, hlb, hSp, hBs⟩ := hF
    have hbl : bl = [] := (GH hSp hBs).1 hrt
    subst hbl
    have hRb0 : Rd h11 [mb] rb 3 0 [] := (hOb.rd (h := h11) (ms := [mb]) (List.Mem.head _)).rd
    have hcur := l11
    have hRZ := hRZ.up hcur
    have orb : rb.oneCell' = true := (hOb.rd (h := h11) (ms := [mb]) (List.Mem.head _)).rd.one
    refine Qa (BH 4 148 (by kernel_rfl) rfl rfl rfl rfl rfl (by assumption) rfl (CH hRb0 rfl underlying33 rfl) (Qo 6 rfl (Ce rfl rfl rfl rfl (Qc call30 rfl (strands_not Z' vd' va' _ hOk' hrt hRZ) (fun rq h12 ms12 l12 hF => ?_)))))
    obtain ⟨rfl, rfl⟩ := hF
    have hcur := Hp.le_trans l11 l12
    have hRZ := hRZ.up l12
    refine Qa (BH 7 151 (by kernel_rfl) rfl rfl rfl rfl rfl (by assumption) rfl (Ml (ty := 60) rfl underlying60 rfl) (BH 8 152 (by kernel_rfl) rfl rfl rfl rfl rfl (by assumption) rfl (oA rfl) ?_))
    refine BH 9 153 (by kernel_rfl) rfl rfl rfl rfl rfl (by assumption) rfl (GM (EJ rfl rfl rfl) (congrArg Value.bool (decide_eq_true (by simp)))) ?_
    refine Qo 10 rfl (Qm rfl (Qa (Qo 11 rfl (Qm rfl (Qa (BH 12 156 (by kernel_rfl) rfl rfl rfl rfl rfl (by assumption) rfl (oG rfl underlying30 Bz (Seg.any hS6)) (BH 13 157 (by kernel_rfl) rfl rfl rfl rfl rfl (by assumption) rfl (AG rfl call24 rfl (zrank_not Z' vd' va' _ hOk' hrt hRZ0 _)) (BH 14 158 (by kernel_rfl) rfl rfl rfl rfl rfl (by assumption) rfl (GM (EJ rfl rfl rfl) (congrArg Value.bool (decide_eq_true rfl))) (Qo 15 rfl (Qm rfl (Qa (Qo 16 rfl (Qm rfl (Qa (BH 17 161 (by kernel_rfl) rfl rfl rfl rfl rfl (by assumption) rfl (oG rfl underlying30 Bz (Seg.any hS6)) (BH 18 162 (by kernel_rfl) rfl rfl rfl rfl rfl (by assumption) rfl (As rfl rfl) (BH 19 163 (by kernel_rfl) rfl rfl rfl rfl rfl (by assumption) rfl (AG rfl call32 rfl (zcheck_not Z' vd' va' rs _ hOk' hrt hRZ0 ors _)) (BH 20 164 (by kernel_rfl) rfl rfl rfl rfl rfl (by assumption) rfl (CP rfl rfl) (Qo 21 rfl (Qm rfl (Qa (Qo 22 rfl (Qm rfl (Qa (BH 23 167 (by kernel_rfl) rfl rfl rfl rfl rfl (by assumption) rfl (oG rfl underlying30 Bz (Seg.any hS6)) ?_)))))))))))))))))))))))))
    refine BH 25 169 (by kernel_rfl) rfl rfl rfl rfl rfl (by assumption) rfl (AT Sr [.int .i64 0, .slice none 0 0, .slice none 0 0] [] [_, _, _] rfl Bz rfl rfl (by repeat (first | exact trivial | refine ⟨⟨rfl, rfl, rfl⟩, ?_⟩ | refine ⟨⟨(hRb0).cells, rfl, rfl⟩, ?_⟩)) rfl) ?_
    refine Qo 24 rfl (Ce rfl rfl rfl rfl (Qc call26 rfl (zturn_not Z' vd' va' _ hOk' hrt hRZ) (fun rt h13 ms13 l13 hF => ?_)))
    obtain ⟨l13', rfl⟩ := hF
    refine wl_dropPw ?_ ms13
    have hcur := Hp.le_trans hcur l13
    refine Qa (Qo 26 rfl (Qg (AG rfl call27 rfl (samezig_nil _ _)) rfl (Qa (Qo 27 rfl (Qm rfl (Qa (Qo 28 rfl (Qm rfl (Qa (Qe (Ab (Ao ?_))))))))))))
    exact Am rfl rfl rfl
end Go.Proofs.YtdnelknieikbaaaGreat
namespace Go.Proofs.YtdnelknieikbaaaGreat
open Go.Eng Go.ChangeShapes Go.WideShapes Go.ChangeAt Go.RowKit Go.Deep
section
variable {H : Type} {enc : TypeId × Value → H} {P : Program} {w : World} {base : Nat} {spare : Nat → Bool} {held : Bool}
theorem trod_intsB {t e : TypeId} {k : IntKind} {n fuel : Nat} {cs : List Value} {x : DataW H × List MemPlace} (ht : P.underlying t = some (.array n e)) (he : P.underlying e = some (.int k)) (hc : P.cellsOf e = 1) (hct : P.cellsOf t = n) (h : DataW.trod enc P w base spare held fuel t cs = some x) :
  ∃ xs : List Int, xs.length = n ∧ cs = xs.map (Value.int k) ∧ ∀ x ∈ xs, (Lit.int k x).wf = true := by
 obtain ⟨ys, m, _, _, hlen, hyl, hi⟩ := DataW.trod_array ht h
 rw [hct] at hlen
 simp only [hc, Nat.mul_one] at hi
 obtain ⟨xs, hxl, hq⟩ := HR (α := Int) (Q := fun i b => cs[i]? = some (.int k b) ∧ (Lit.int k b).wf = true) n fun i hin => by
  have h1 := hi i hin
  have hic : i < cs.length := by omega
  rw [List.getElem?_eq_getElem (show i < ys.length by omega)] at h1
  obtain ⟨b, h2, _, h3⟩ := DataW.trod_int he h1
  have h4 : ((cs.drop i).take 1)[0]? = some (Value.int k b) := by rw [h2]; rfl
  rw [List.getElem?_take_of_lt (by decide), List.getElem?_drop] at h4
  exact ⟨b, h4, h3⟩
 refine ⟨xs, hxl, ?_, fun x hx => ?_⟩
 ·refine List.ext_getElem (by simp [hlen, hxl]) fun i h1 h2 => ?_
  have h3 := (hq i (by omega)).1
  rw [List.getElem?_eq_getElem h1] at h3
  simpa using h3
 ·obtain ⟨i, hi', rfl⟩ := List.getElem_of_mem hx
  exact (hq i hi').2
end
theorem arr_ints {P : Program} {w : World} {r : Reach} {b0 : Nat} {t e : TypeId} {k : IntKind} {n : Nat} {H : Type} {enc : TypeId × Value → H} {held : Bool} {v : Value} {d : DataW H} {ps : List MemPlace} {base : Nat} {spare : Nat → Bool} (ht : P.underlying t = some (.array n e)) (he : P.underlying e = some (.int k)) (hc : P.cellsOf e = 1) (hct : P.cellsOf t = n) (hval : Value.okWide P w r b0 t v) (h : DataW.Trod enc P w base spare held t v d ps) : ∃ xs : List Int, xs.length = n ∧ v = .agg (xs.map (Value.int k)).toArray ∧ ∀ x ∈ xs, (Lit.int k x).wf = true := by
 simp only [Value.okWide, ht] at hval
 obtain ⟨cs, rfl, h2, _⟩ := hval
 obtain ⟨fuel, hf⟩ := h
 obtain ⟨xs, hl, hx, hw⟩ := trod_intsB ht he hc hct hf
 have hx : cs.toList = xs.map (Value.int k) := hx
 exact ⟨xs, hl, by rw [← hx], hw⟩
section
variable {H : Type} {enc : TypeId × Value → H} {w : World} {base : Nat} {spare : Nat → Bool} {held : Bool}
end
end Go.Proofs.YtdnelknieikbaaaGreat
namespace Go.Proofs.YtdnelknieikbaaaGreat
open Go.Proofs.Tryz
open Go.Eng Go.ChangeShapes Go.WideShapes Go.ChangeAt Go.RowKit Go.Deep
section
variable {H : Type} {enc : TypeId × Value → H} {w : World} {base : Nat} {spare : Nat → Bool} {held : Bool}
theorem open_i3 {v : Value} {r : Reach} {b0 : Nat} {d : DataW H} {ps : List MemPlace} (hval : Value.okWide Tryz.prog w r b0 71 v) (h : DataW.Trod enc Tryz.prog w base spare held 71 v d ps) : ∃ q0 q1 q2 : Int, v = .agg #[.int .i64 q0, .int .i64 q1, .int .i64 q2] ∧ Dh q0 ∧ Dh q1 ∧ Dh q2 := by
 obtain ⟨xs, hl, rfl, hw⟩ := arr_ints underlying71 underlying3 (by kernel_rfl) (by kernel_rfl) hval h
 match xs, hl with
 | [a, b, c], _ => exact ⟨a, b, c, rfl, bounds_i64 (hw a (by simp)), bounds_i64 (hw b (by simp)), bounds_i64 (hw c (by simp))⟩
end
end Go.Proofs.YtdnelknieikbaaaGreat
