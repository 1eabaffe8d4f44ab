/- Parts of the proof: Yh Yi Yj Yk Yo Yl Ym Yn Yp. -/
import Derived.Test.YtdnelknieikbaaaGreatTF
set_option linter.unusedSimpArgs false
set_option linter.unusedVariables false
set_option maxRecDepth 100000
namespace Go.Proofs.YtdnelknieikbaaaGreat
open Tryz
open Go.Eng Go.RowKit Go.Lin
def HH (p n : Int) (ft : Nat) (v w : Nat → Nat → Int) (k i : Nat) : Int := if ft ≤ k then (v k i + n * w k i) % p else v k i
def IS (p n : Int) (to b : Nat) (v w : Nat → Nat → Int) (k i : Nat) : Int := if to < k + b then (v k i + n * w k i) % p else v k i
def Jd (p n : Int) (i : Nat) (v w : Nat → Int) (a : Nat) : Int := if a < i then (v a + n * w a) % p else v a
theorem Oy (p n : Int) (i : Nat) (v w : Nat → Int) (a : Nat) : (if a = i then (v i + n * w i) % p else Jd p n i v w a) = Jd p n (i + 1) v w a := by
 unfold Jd
 by_cases h : a = i
 ·rw [if_pos h, if_pos (by omega), h]
 ·rw [if_neg h]
  by_cases h2 : a < i
  ·rw [if_pos h2, if_pos (by omega)]
  ·rw [if_neg h2, if_neg (by omega)]
theorem T7 (p n : Int) (i : Nat) (v w : Nat → Int) : Jd p n i v w i = v i := if_neg (by omega)
theorem U4 (p n : Int) (d : Nat → Nat) (gs gt fs ft to : Nat) (v w : Nat → Nat → Int) (vv : Value) (es : List Value) (mb : Hp) (h : Hp) (hp : 2 ≤ p ∧ p ≤ 997) (hn : 0 ≤ n ∧ n ≤ 997) (hto : to ≤ 1000) (hfs : fs ≤ to) (hd : ∀ k, d k ≤ 400)
  (hv : ∀ k, fs ≤ k → k ≤ to → ∀ i, i < d k → 0 ≤ v k i ∧ v k i < p) (hw : ∀ k, ft ≤ k → k ≤ to → ∀ i, i < d k → 0 ≤ w k i ∧ w k i < p)
  (hS : Seg h [] ⟨gs, 0, none⟩ [.int .i64 fs, .int .i64 to, vv]) (hE : RdL cV 1 h [] vv es) (hl : es.length = to + 1 - fs) (B : VecB d fs es.length es v mb) (hT : We h d gt ft to w) :
  FnT Tryz.prog 112 #[.pointer (some ⟨gs, 0, none⟩), .int .i64 p, .int .i64 n, .pointer (some ⟨gt, 0, none⟩)] h [mb] (fun r h' ms' => h = h' ∧ ∃ mb', ms' = [mb'] ∧ VecB d fs es.length es (HH p n ft v w) mb') := by
 obtain ⟨wv, ws, hft, hS2, hE2, hl2, hW⟩ := hT
 have hA := Seg.all hS
 have hA2 := Seg.all hS2
 have c1 : ((es.length : Nat) : Int) = (to : Int) + 1 - fs := by omega
 have c2 : ((ws.length : Nat) : Int) = (to : Int) + 1 - ft := by omega
 refine Av func112 ntmps112 rfl rfl (fun w0 hw0 => ?_)
 simp only [A4]
 refine Ax (Qm rfl (Aq (Ag ?_)))
 refine AD (fun q s hh ms' => ∃ (b : Nat) (m : Hp), q = 2000 - b ∧ s = [(0, .pointer (some ⟨gs, 0, none⟩)), (1, .int .i64 p), (2, .int .i64 n), (3, .pointer (some ⟨gt, 0, none⟩)), (8, .int .i64 ((b : Int) + 1))] ∧ h = hh ∧ ms' = [m] ∧ b ≤ es.length ∧ b ≤ ws.length ∧ VecB d fs es.length es (IS p n to b v w) m)
  (2000 - 0) _ ⟨0, mb, rfl, rfl, rfl, rfl, by omega, by omega, B.mono fun l hl x O => by rw [BA (f := IS p n to 0 v w (fs + l)) (g := v (fs + l)) (fun i _ => if_neg (by omega))]; exact O⟩ Qs ?_
 rintro q s hh ms' ⟨b, m, rfl, rfl, rfl, rfl, hb1, hb2, B⟩
 refine Ac (Ac (AW (n := 15) (bs := [true, true, true, true, true, true, true, true, true, true, true, true, true, true, true]) [true, true, true, true, true, true, true, true, true, true, true, true, true, true, true] Cd (by kernel_rfl) (by kernel_rfl) rfl rfl (Qq rfl (Qq rfl (Qq rfl (QF C7 rfl (QF CY rfl (QL rfl underlying62 (hA 2 _ rfl _) (Qp rfl (AJ hE.rd.any rfl underlying62 rfl) (Qq rfl (Qq rfl (QF C7 rfl (QF CY rfl (QL rfl underlying62 (hA2 2 _ rfl _) (Qp rfl (AJ hE2.rd.any rfl underlying62 rfl) (Qp rfl (MX rfl rfl rfl) (Qq rfl ?_)))))))))))))))))
 unfold CD
 simp only [List.cons_append, List.nil_append]
 refine Qe (Ab ?_)
 refine AF rfl (fun hlt => ?_) (fun hlt => ?_)
 ·have hkk : to - b - fs < es.length := by omega
  have hkk2 : to - b - ft < ws.length := by omega
  have hbt : b ≤ to := by omega
  refine Ai (Ab (Ac (Ag (Ac (AW (n := 32) (bs := [true, true, true, true, true, true, true, true, true, true, true, true, true, true, true, true, true, true, true, true, true, true, true, true, true, true, true, true, true, true, false, false]) [true, true, true, true, true, true, true, true, true, true, true, true, true, true, true, true, true, true, true, true, true, true, true, true, true, true, true, true, true, true] Cd (by kernel_rfl) (by kernel_rfl) rfl rfl (Qq rfl (Qq rfl (QF C7 rfl (QF CY rfl (QL rfl underlying62 (hA 2 _ rfl _) (Qq rfl (Qq rfl (QF C7 rfl (QF CY rfl (QL rfl underlying62 (hA 2 _ rfl _) (Qp rfl (AJ hE.rd.any rfl underlying62 rfl) (Qq rfl (Qp rfl (oS rfl) (Qp rfl (Ah (to - b - fs) hE.rd.any rfl underlying62 BN rfl rfl (by omega) (by omega)) (QL rfl underlying24 (hE.any.cell0 hkk rfl) (Qq rfl (Qq rfl (QF C7 rfl (QF CY rfl (QL rfl underlying62 (hA2 2 _ rfl _) (Qq rfl (Qq rfl (QF C7 rfl (QF CY rfl (QL rfl underlying62 (hA2 2 _ rfl _) (Qp rfl (AJ hE2.rd.any rfl underlying62 rfl) (Qq rfl (Qp rfl (oS rfl) (Qp rfl (Ah (to - b - ft) hE2.rd.any rfl underlying62 BN rfl rfl (by omega) (by omega)) (QL rfl underlying24 (hE2.any.cell0 hkk2 rfl) ?_)))))))))))))))))))))))))))))))))))
  unfold CD
  simp only [List.cons_append, List.nil_append]
  refine Qo 30 rfl (Qm rfl (Qw (Qo 31 rfl (Qm rfl (Qw (Qe ?_))))))
  obtain ⟨m1, m2, rfl, hdj, O, hoth, hclose⟩ := Bag.open B hkk
  rw [Ev hkk, show fs + (to - b - fs) = to - b by omega] at O
  have hWk := hW (to - b - ft) hkk2
  rw [show ft + (to - b - ft) = to - b by omega] at hWk
  have hvk := hv (to - b) (by omega) (by omega)
  have hwk := hw (to - b) (by omega) (by omega)
  have hdk := hd (to - b)
  have O : OwnL cI 1 3 m1 es[to - b - fs] (vec (d (to - b)) (v (to - b))) := by
   rwa [BA (f := IS p n to b v w (to - b)) (g := v (to - b)) (fun i _ => if_neg (by omega))] at O
  refine Ab (Il hdj ?_)
  have ew := AQ (d (to - b)) (w (to - b))
  have hRl : ∀ ms, m1 ∈ ms → Rd h ms es[to - b - fs] 1 (d (to - b)) ((vec (d (to - b)) (v (to - b))).flatMap cI) := fun ms hm => by
   have := (O.rd (h := h) hm).rd
   rwa [AQ] at this
  refine Ax (Qm rfl (Qx (AJ (hRl _ (List.Mem.head _)) rfl underlying24 rfl) rfl (Qm rfl (Aq (Ag ?_)))))
  refine AD (fun q s hh ms' => ∃ (i : Nat) (m1 : Hp), q = d (to - b) - i ∧ s = [(0, .pointer (some ⟨gs, 0, none⟩)), (1, .int .i64 p), (2, .int .i64 n), (3, .pointer (some ⟨gt, 0, none⟩)), (8, .int .i64 ((b : Int) + 1)), (9, es[to - b - fs]), (10, ws[to - b - ft]), (60, .int .i64 (d (to - b))), (61, .int .i64 i)] ∧ h = hh ∧ ms' = [m1, m2] ∧ i ≤ d (to - b) ∧ OwnL cI 1 3 m1 es[to - b - fs] (vec (d (to - b)) (Jd p n i (v (to - b)) (w (to - b)))))
   (d (to - b) - 0) _ ⟨0, m1, rfl, rfl, rfl, rfl, by omega, by rw [BA (f := Jd p n 0 (v (to - b)) (w (to - b))) (g := v (to - b)) (fun i _ => if_neg (by omega))]; exact O⟩ Qs ?_
  rintro q s hh ms' ⟨i, m1, rfl, rfl, rfl, rfl, hi, O⟩
  have hRl : ∀ ms, m1 ∈ ms → Rd h ms es[to - b - fs] 1 (d (to - b)) ((vec (d (to - b)) (Jd p n i (v (to - b)) (w (to - b)))).flatMap cI) := fun ms hm => by
   have := (O.rd (h := h) hm).rd
   rwa [AQ] at this
  refine Ax (Qm rfl (Aq (Ac ?_)))
  refine AF rfl (fun hlti => ?_) (fun hlti => ?_)
  ·have hid : i < d (to - b) := by omega
   have hvi := hvk i hid
   have hwi := hwk i hid
   have hmb : 0 ≤ n * w (to - b) i ∧ n * w (to - b) i ≤ 997 * 997 := ⟨Int.mul_nonneg hn.1 hwi.1, Int.mul_le_mul hn.2 (by omega) hwi.1 (by omega)⟩
   have ew2 := AQ (d (to - b)) (Jd p n i (v (to - b)) (w (to - b)))
   have hcw : ∀ ms, Cell h ms ((Bl ws[to - b - ft]).add (i * 1)) (.int .i64 (w (to - b) i)) := fun ms => (hWk.any (ms := ms)).ev hid
   have hcv : ∀ ms, m1 ∈ ms → Cell h ms ((Bl es[to - b - fs]).add (i * 1)) (.int .i64 (v (to - b) i)) := fun ms hm => by
    have := (O.rd (h := h) hm).ev hid
    rwa [T7] at this
   refine Ai (Ab (Ac (Ag (Ax (Qm rfl (Qm rfl (Aq (AW (n := 17) (bs := [true, true, true, true, true, false, true, true, true, true, true, true, false, true, false, true, false]) [true, true, true, true, true, false, true, true, true, true, true, true, false, true, false, true] Cd (by kernel_rfl) (by kernel_rfl) rfl rfl (Qq rfl (Qq rfl (Qq rfl (Qq rfl (Qp rfl (Bo (i) (hRl [m1] (List.Mem.head _)) rfl underlying24 A8 rfl rfl (by omega) (by omega)) (Qq rfl (Qq rfl (Qq rfl (Qp rfl (Ah (i) hWk.rd.any rfl underlying24 A8 rfl rfl (by omega) (by omega)) (QL rfl underlying3 (hcw _) (Qp rfl (oM rfl) (Qq rfl (Qp rfl (Bo (i) (hRl [m1] (List.Mem.head _)) rfl underlying24 A8 rfl rfl (by omega) (by omega)) ?_)))))))))))))))))))))
   unfold CD
   simp only [List.cons_append, List.nil_append]
   refine Qo 5 rfl (Ql rfl underlying3 (hcv _ (List.Mem.head _)) (Qw (Qo 12 rfl (Qx (oA rfl) rfl (Qw (Qo 14 rfl (Qx (B0 rfl rfl rfl (by omega) (by omega)) rfl (Qw (Qo 16 rfl (Bu 0 i O rfl A8 rfl rfl rfl (by omega) rfl rfl (fun m' hO' => Qw (Qe (Aj (Ab (Ad (Qx (oA rfl) rfl (Qm rfl (Ak ?_))))))))))))))))))
   refine Al (d (to - b) - (i + 1)) _ (by omega) ⟨i + 1, m', rfl, rfl, rfl, rfl, by omega, ?_⟩ Qs
   rw [D6, BA (fun a _ => Oy p n i (v (to - b)) (w (to - b)) a)] at hO'
   exact hO'
  ·obtain rfl : i = d (to - b) := by omega
   refine Aw (Aa (Aa (Af (Aj (Ab (Ad (Qm rfl (Qx (oA rfl) rfl (Qm rfl (Ak (Ck fun hap => ?_)))))))))))
   have hd12 : m1.disj m2 := (List.pairwise_cons.1 hap).1 _ (List.mem_singleton.2 rfl)
   refine Cq ?_
   refine Al (2000 - (b + 1)) _ (by omega) ⟨b + 1, m1.join m2, rfl, rfl, rfl, rfl, by omega, by omega, ?_⟩ Qs
   refine hclose _ m1 hd12 ?_ fun k hk hne x O => ?_
   ·rw [Ev hkk, show fs + (to - b - fs) = to - b by omega, BA (f := IS p n to (b + 1) v w (to - b)) (g := Jd p n (d (to - b)) (v (to - b)) (w (to - b))) (fun a ha => ?_)]
    ·exact O
    ·unfold IS Jd
     rw [if_pos (by omega), if_pos ha]
   ·rw [BA (f := IS p n to (b + 1) v w (fs + k)) (g := IS p n to b v w (fs + k)) (fun a _ => ?_)]
    ·exact O
    ·unfold IS
     by_cases h3 : to < fs + k + b
     ·rw [if_pos h3, if_pos (by omega)]
     ·rw [if_neg h3, if_neg (by omega)]
 ·refine Aw (Aa (Aa (Af ?_)))
  have hfin : ∀ l a, l < es.length → HH p n ft v w (fs + l) a = IS p n to b v w (fs + l) a := fun l a hl => by
   unfold HH IS
   by_cases h3 : ft ≤ fs + l
   ·rw [if_pos h3, if_pos (by omega)]
   ·rw [if_neg h3, if_neg (by omega)]
  exact B6 rfl (⟨rfl, m, rfl, B.mono fun l hl x O => by rw [BA (f := HH p n ft v w (fs + l)) (g := IS p n to b v w (fs + l)) (fun a _ => hfin l a hl)]; exact O⟩)
end Go.Proofs.YtdnelknieikbaaaGreat
namespace Go.Proofs.YtdnelknieikbaaaGreat
open Tryz
open Go.Eng Go.RowKit Go.Lin
variable {n d k : Nat} {w : Nat → Nat → Int} {v : Value}
def BagV (d n : Nat) (es : List Value) (w : Nat → Nat → Int) (m : Hp) : Prop := es.length = n ∧ Bag n (fun k x => OwnL cI 1 3 x (es.getD k undef) (vec d (w k))) m
theorem BagV.zero (d : Nat) (w : Nat → Nat → Int) : BagV d 0 [] w Hp.emp := ⟨rfl, Bag.zero _⟩
theorem BagV.snoc {es : List Value} {w' : Nat → Nat → Int} {m x : Hp} (B : BagV d n es w m) (O : OwnL cI 1 3 x v (vec d (w' n))) (hd : m.disj x) (hw : ∀ k, k < n → ∀ i, i < d → w' k i = w k i) : BagV d (n + 1) (es ++ [v]) w' (m.join x) := by
 obtain ⟨h1, B⟩ := B
 refine ⟨by rw [List.length_append, h1]; rfl, Bag.snoc (B.mono fun l hl x O => ?_) ?_ hd⟩
 ·have : (es ++ [v]).getD l undef = es.getD l undef := by simp [List.getD, List.getElem?_append_left (show l < es.length by omega)]
  rw [this, BA (hw l hl)]; exact O
 ·have : (es ++ [v]).getD n undef = v := by simp [List.getD, ← h1]
  rw [this]; exact O
theorem BagV.rd {es : List Value} {m h : Hp} {vv : Value} (B : BagV d n es w m) (hR : RdL cV 1 h [] vv es) (hl : m.le h) : RdV h vv n d w := by
 obtain ⟨h1, B⟩ := B
 refine ⟨es, h1, hR, fun j hj => ?_⟩
 obtain ⟨x, hx, O⟩ := Bag.all B j (by omega)
 rw [Ev hj] at O
 exact O.rdh (Hp.le_trans hx hl)
theorem RdV.rdn {h : Hp} (R : RdV h v n d w) : ∃ vs : List Value, vs.length = n ∧ Rd h [] v 1 n (vs.flatMap cV) := by
 obtain ⟨vs, h1, h2, _⟩ := R
 refine ⟨vs, h1, ?_⟩
 have := h2.rd
 rwa [h1] at this
theorem Cj (h : v.oneCell' = true) : ∀ a ∈ [v], ∀ c ∈ cV a, c.oneCell' = true := fun a ha c hc => by
 rw [List.mem_singleton.1 ha] at hc
 simp [cV] at hc
 subst hc; exact h
theorem K5 {α : Type} (a b c : α) : [a, b, c].Perm [c, a, b] := List.Perm.trans (List.Perm.cons a (List.Perm.swap c b [])) (List.Perm.swap c a [b])
def from_ (n : Nat) (pv : List Nat) : List Nat := pv.filter fun j => decide (n ≤ j)
theorem SC {pv : List Nat} (hk : k < pv.length) (h : n ≤ pv.getD k 0) : from_ n (pv.take (k + 1)) = from_ n (pv.take k) ++ [pv.getD k 0] := by
 unfold from_
 rw [ES _ _ _ hk]
 have e := Cn hk
 rw [e] at h
 rw [if_pos (by simp; exact h), e]
theorem SS {pv : List Nat} (hk : k < pv.length) (h : ¬ n ≤ pv.getD k 0) : from_ n (pv.take (k + 1)) = from_ n (pv.take k) := by
 unfold from_
 rw [ES _ _ _ hk]
 have e := Cn hk
 rw [e] at h
 rw [if_neg (by simp; omega), List.append_nil]
theorem JP {l : List Nat} {x : Nat} (hk : k < l.length) : (l ++ [x]).getD k 0 = l.getD k 0 := by simp [List.getD, List.getElem?_append_left hk]
theorem FD {l : List Nat} {x : Nat} : (l ++ [x]).getD l.length 0 = x := by simp [List.getD]
theorem Rx (p : Int) (d n : Nat) (w : Nat → Nat → Int) (vl : Value) (h : Hp) (R : RtM p d n fun i j => w j i) (hnd : n + d ≤ 400) (hR : RdV h vl n d w) :
  FnT Tryz.prog 116 #[.int .i64 p, .int .i64 d, vl] h [] (fun x h' ms' => h.le h' ∧ ∃ (F : Nat → Nat → Int) (pv : List Nat) (ma mb : Hp) (es : List Value), Ho p d (n + d) (jn n (fun i j => w j i) Dl) F pv ∧ ms' = [ma, mb] ∧ OwnL cV 1 24 ma x es ∧ BagV d (from_ n pv).length es (fun t i => jn n (fun i j => w j i) Dl i ((from_ n pv).getD t 0)) mb) := by
 have hb := R.bd
 have rl := R.rl
 have cl := R.cl
 obtain ⟨vs0, hvs0, hRn⟩ := RdV.rdn hR
 have o1 := hRn.one
 refine Av func116 ntmps116 rfl rfl (fun w0 hw0 => ?_)
 simp only [A4]
 refine Ax (Qm rfl (B3 (Qm rfl (Qm rfl (Qm rfl (Qc call97 rfl (Bi p d n w vl h R.i64 rl cl hR) (fun x h1 ms1 l1 hF => ?_)))))))
 obtain ⟨rfl, ec, mc, rfl, rfl, hOc⟩ := hF
 refine AH hOc fun h1 l1 hRc => (Qm rfl (Qm rfl (Qc call87 rfl (J3 p d h1 R.pr rl) (fun x h2 ms2 l2 hF => ?_))))
 obtain ⟨rfl, eo, mo, rfl, rfl, hOo⟩ := hF
 refine AH hOo fun h2 l2 hRo => ?_
 have hRc := hRc.up l2
 refine Qc call138 rfl (Rj p d n d (fun i j => w j i) Dl ec eo h2 R (MD R.pr rl) hnd hRc hRo) (fun x h3 ms3 l3 hF => ?_)
 obtain ⟨l3, v3, rfl, ej, mj, rfl, rfl, hOj⟩ := hF
 have RJ : RtM p d (n + d) (jn n (fun i j => w j i) Dl) := ⟨R.pr, rl, by omega, fun i hi j hj => by
  unfold jn
  split
  ·rename_i hjn; exact R.en i hi j hjn
  ·exact (MD R.pr rl).en i hi (j - n) (by omega)⟩
 refine AH hOj fun h4 l4 hRj => ?_
 have oj := hRj.rd.one
 refine Qm rfl (Qm rfl (Qm rfl (BZ [.int .i64 0, .int .i64 0, .int .i64 0, .slice none 0 0] rfl AI rfl rfl (fun g7 => ?_))))
 refine Sa 0 [_, _, _, _] AI rfl (by simp [oj]) ?_
 refine Qm rfl (Aq (By 0 rfl fun h5 l5 hS => ?_))
 have hRj := hRj.up l5
 refine Ax (Qx (oG rfl underlying42 AI (Seg.any hS)) rfl (Qc call120 rfl (Eh p d (n + d) (jn n (fun i j => w j i) Dl) ej h5 RJ hRj) (fun x h6 ms6 l6 hF => ?_)))
 obtain ⟨l6, F, pv, eu, vp, m, m2, rfl, rfl, hOe, hOp, hE⟩ := hF
 have oe : eu.oneCell' = true := (hOe.rd (h := h) (ms := [m]) (List.Mem.head _)).rd.one
 have op : vp.oneCell' = true := (hOp.rd (h := h) (ms := [m2]) (List.Mem.head _)).rd.one
 have hRj := hRj.up l6
 have hS := hS.le l6
 have hlh : h.le h6 := Hp.le_trans l1 (Hp.le_trans l2 (Hp.le_trans l3 (Hp.le_trans l4 (Hp.le_trans l5 l6))))
 have hRn := hRn.le hlh
 have hlen := hE.red.len
 refine Qm rfl (Qm rfl (Qm rfl (BZ [.int .i64 0, .int .i64 0, .int .i64 0, .slice none 0 0] rfl AI rfl rfl (fun g9 => ?_))))
 refine Sa 0 [_, _, _, _] AI rfl (by simp [oe]) ?_
 refine Qm rfl (Aq (HF 0 rfl (HF 0 rfl (Bg hOp fun h7 l7 hRp => ?_))))
 have hRj := hRj.up l7
 have hS := hS.le l7
 have hRn := hRn.le l7
 have hlh := Hp.le_trans hlh l7
 have hRpn : Rd h7 [] vp 1 pv.length ((HY pv).flatMap cI) := by
  have := hRp.rd
  rwa [EF] at this
 refine Ax (Qm rfl (Aq (Ac (Ax (Qm rfl (Qx (AJ hRpn.any rfl underlying24 rfl) rfl (Qm rfl (Aq (Ag (BX (BX ?_)))))))))))
 refine AD (fun q s hh ms' => ∃ (k : Nat) (es : List Value) (vv : Value) (ma mb : Hp), q = pv.length - k ∧ s = [(2, vl), (7, .pointer (some ⟨g7, 0, none⟩)), (11, vv), (30, vp), (31, .int .i64 pv.length), (32, .int .i64 k)] ∧ h7 = hh ∧ ms' = [ma, mb] ∧ k ≤ pv.length ∧ OwnL cV 1 24 ma vv es ∧ BagV d (from_ n (pv.take k)).length es (fun t i => jn n (fun i j => w j i) Dl i ((from_ n (pv.take k)).getD t 0)) mb)
  (pv.length - 0) _ ⟨0, [], _, _, _, rfl, rfl, rfl, rfl, by omega, OwnL.nil BK, BagV.zero _ _⟩ Qs ?_
 rintro q s hh ms' ⟨k, es, vv, ma, mb, rfl, rfl, rfl, rfl, hk, hO, hB⟩
 refine Ax (Qm rfl (Aq (Ac ?_)))
 refine AF rfl (fun hlt => ?_) (fun hlt => ?_)
 ·have hkl : k < pv.length := by omega
  have hpc : pv.getD k 0 < n + d := by rw [Cn hkl]; exact hE.red.lt k hkl
  have hpcell : ∀ ms, Cell h7 ms ((Bl vp).add (k * 1)) (.int .i64 ((pv.getD k 0 : Nat) : Int)) := fun ms => by
   have hl : k < (HY pv).length := by rw [EF]; exact hkl
   have := (hRp.any (ms := ms)).cell0 hl (u := .int .i64 (HY pv)[k]) rfl
   have e : (HY pv)[k] = ((pv.getD k 0 : Nat) : Int) := by simp [HY, List.getD_eq_getElem?_getD, hkl]
   rw [e] at this
   exact this
  refine Ai (Ab (Ac (Ag (Ax (Qx (Ah _ hRpn.any rfl underlying24 A8 rfl rfl rfl (by omega)) rfl (Ql rfl underlying3 (hpcell _) (Qm rfl (B3 (Qm rfl (Qm rfl (Qx (AJ hRn.any rfl underlying62 rfl) rfl (Qm rfl (Aq ?_)))))))))))))
  refine AF rfl (fun hge => ?_) (fun hge => ?_)
  ·have hge' : n ≤ pv.getD k 0 := by omega
   refine Ad (Qm rfl (Qx (oG rfl underlying42 AI (Seg.any hS)) rfl (Qm rfl (Qc call89 rfl (Eb p d (n + d) (jn n (fun i j => w j i) Dl) ej (pv.getD k 0) h7 rl (by omega) hpc hRj) (fun v h8 ms8 l8 hF => ?_)))))
   obtain ⟨rfl, mv, rfl, hOv⟩ := hF
   have ov : v.oneCell' = true := (hOv.rd (h := h) (ms := [mv]) (List.Mem.head _)).rd.one
   refine AB [_] rfl underlying62 BN rfl (((hOv.rd (h := h) (ms := [mv]) (List.Mem.head _)).rd).cells) rfl rfl (by omega) rfl rfl rfl (fun g44 => ?_)
   have hes : es.length ≤ 400 := by
    have h1 := hB.1
    have h2 : (from_ n (pv.take k)).length ≤ (pv.take k).length := List.length_filter_le _ _
    rw [List.length_take] at h2
    omega
   refine Ba 2 hO (RdL.one BK (List.Mem.head _) rfl) rfl underlying62 BN rfl (by omega) rfl rfl rfl (Cj ov) (by simp only [List.length_singleton]; omega) (by simp only [List.length_singleton]; omega) rfl rfl rfl (fun vv' ma' hO' => ?_)
   refine Qm rfl (Ak (Aj (Ab (Ad (Qx (oA rfl) rfl (Qm rfl (Ak (AP 0 rfl (CF (ms' := [mb, mv, ma']) (K5 _ _ _) (Ck fun hap => ?_))))))))))
   have hd12 : mb.disj mv := (List.pairwise_cons.1 hap).1 _ List.mem_cons_self
   refine Cq (A9 ?_)
   refine Al (pv.length - (k + 1)) _ (by omega) ⟨k + 1, es ++ [v], vv', ma', mb.join mv, rfl, rfl, rfl, rfl, by omega, hO', ?_⟩ Qs
   rw [SC hkl hge', List.length_append, List.length_singleton]
   refine hB.snoc (w' := fun t i => jn n (fun i j => w j i) Dl i ((from_ n (pv.take k) ++ [pv.getD k 0]).getD t 0)) ?_ hd12 fun t ht i _ => ?_
   ·show OwnL cI 1 3 mv v (vec d fun i => jn n (fun i j => w j i) Dl i ((from_ n (pv.take k) ++ [pv.getD k 0]).getD (from_ n (pv.take k)).length 0))
    rw [FD]
    exact hOv
   ·show jn n (fun i j => w j i) Dl i ((from_ n (pv.take k) ++ [pv.getD k 0]).getD t 0) = _
    rw [JP ht]
  ·refine Ai (Aj (Ab (Ad (Qx (oA rfl) rfl (Qm rfl (Ak ?_))))))
   refine Al (pv.length - (k + 1)) _ (by omega) ⟨k + 1, es, vv, ma, mb, rfl, rfl, rfl, rfl, by omega, hO, by rw [SS hkl (by omega)]; exact hB⟩ Qs
 ·obtain rfl : k = pv.length := by omega
  rw [List.take_length] at hB
  refine Aw (Aa (Aa (Af (Ab (Ax (Qm rfl (Qm rfl (Aq (Ao ?_)))))))))
  exact Am rfl rfl (⟨hlh, F, pv, ma, mb, es, hE, rfl, hO, hB⟩)
end Go.Proofs.YtdnelknieikbaaaGreat
namespace Go.Proofs.YtdnelknieikbaaaGreat
open Tryz
open Go.Eng Go.RowKit Go.Lin
theorem StO.mk {d : Nat → Nat} {g fr to : Nat} {v : Nat → Nat → Int} {vv : Value} {es : List Value} {ma mb : Hp} (h0 : fr ≤ to) (hO : OwnL cV 1 24 ma vv es) (hl : es.length = to + 1 - fr) (B : VecB d fr es.length es v mb) (h1 : (AX g 110 [.int .i64 fr, .int .i64 to, vv]).disj ma) (h1' : (AX g 110 [.int .i64 fr, .int .i64 to, vv]).disj mb) (h2 : ma.disj mb) : StO d g fr to v ((AX g 110 [.int .i64 fr, .int .i64 to, vv]).join (ma.join mb)) :=
 ⟨vv, es, ma, mb, h0, rfl, Hp.disj_symm (Hp.disj_join (Hp.disj_symm h1) (Hp.disj_symm h1')), h2, hO, hl, B⟩
theorem Bag.single {R : Nat → Hp → Prop} {m : Hp} (h : R 0 m) : Bag 1 R m := by
 have := (Bag.zero R).snoc h (fun g => .inl rfl)
 rwa [Hp.emp_join] at this
theorem WH {a b c : Hp} (h : [a, b, c].Pairwise Hp.disj) : (a.disj b ∧ a.disj c) ∧ b.disj c ∧ True := by
 have h1 := List.pairwise_cons.1 h
 have h2 := List.pairwise_cons.1 h1.2
 exact ⟨⟨h1.1 _ (by simp), h1.1 _ (by simp)⟩, h2.1 _ (by simp), trivial⟩
theorem Vi {α : Type} (a b c : α) : [a, b, c].Perm [b, c, a] := List.Perm.trans (List.Perm.swap b a [c]) (List.Perm.cons b (List.Perm.swap c a []))
theorem RE {α : Type} (a b c d : α) : [a, b, c, d].Perm [c, a, b, d] := by
 have := (K5 a b c).append_right [d]
 exact this
theorem IB {d : Nat → Nat} {fr to : Nat} {v : Nat → Nat → Int} {w : Nat → Int} {es : List Value} {mb mu : Hp} {u' : Value} (h0 : fr ≤ to) (hl : es.length = to + 1 - fr) (B : VecB d fr es.length es v mb) (hOu : OwnL cI 1 3 mu u' (vec (d (to + 1)) w)) (hd12 : mb.disj mu) : VecB d fr (es ++ [u']).length (es ++ [u']) (fun k => if k = to + 1 then w else v k) (mb.join mu) := by
 have e : (es ++ [u']).length = es.length + 1 := by simp
 rw [e]
 refine Bag.snoc (B.mono fun l hl2 x O => ?_) ?_ hd12
 ·have : (es ++ [u']).getD l undef = es.getD l undef := by simp [List.getD, List.getElem?_append_left hl2]
  rw [this]
  show OwnL cI 1 3 x _ (vec (d (fr + l)) (if fr + l = to + 1 then w else v (fr + l)))
  rw [if_neg (by omega)]; exact O
 ·have : (es ++ [u']).getD es.length undef = u' := by simp [List.getD]
  rw [this]
  show OwnL cI 1 3 mu _ (vec (d (fr + es.length)) (if fr + es.length = to + 1 then w else v (fr + es.length)))
  rw [if_pos (by omega), show fr + es.length = to + 1 by omega]; exact hOu
theorem Hm (d : Nat → Nat) (gm sp : Nat) (w : Nat → Int) (v a0 a2 a3 : Value) (h : Hp) (hM : Seg h [] ⟨gm, 0, none⟩ [a0, .int .i64 sp, a2, a3]) (hR : RdL cI 1 h [] v (vec (d sp) w)) (hd : d sp ≤ 400) :
  FnT Tryz.prog 88 #[.pointer (some ⟨gm, 0, none⟩), v] h [] (fun x h' ms' => h = h' ∧ ∃ g m, x = .pointer (some ⟨g, 0, none⟩) ∧ ms' = [m] ∧ StO d g sp sp (fun _ => w) m) := by
 have hA := Seg.all hM
 have ew := AQ (d sp) w
 refine Av func88 ntmps88 rfl rfl (fun w0 hw0 => ?_)
 simp only [A4]
 refine Ax (Qm rfl (Aq (Ac (AW (n := 15) (bs := [true, true, true, true, true, true, true, true, true, false, false, false, false, false, false]) [true, true, true, true, true, true, true, true, true] Cd (by kernel_rfl) (by kernel_rfl) rfl rfl (Qq rfl (Qq rfl (QF F9 rfl (QL rfl underlying3 (hA 1 _ rfl _) (Qq rfl (Qq rfl (QF F9 rfl (QL rfl underlying3 (hA 1 _ rfl _) (Qq rfl ?_)))))))))))))
 unfold CD
 simp only [List.cons_append, List.nil_append]
 refine Qo 9 rfl (Qc call51 rfl (DS (vec (d sp) w) v h hR (by omega)) (fun u h1 ms1 l1 hF => ?_))
 obtain ⟨rfl, mu, rfl, hO⟩ := hF
 have ou : u.oneCell' = true := (hO.rd (h := h) (ms := [mu]) (List.Mem.head _)).rd.one
 refine Qw (Qo 10 rfl (AB [_] rfl underlying62 BN rfl ((hO.rd (h := h) (ms := [mu]) (List.Mem.head _)).rd.cells) rfl rfl (by omega) rfl rfl rfl (fun g15 => Qw (Qo 11 rfl ?_))))
 refine Qx (AT WC [.int .i64 0, .int .i64 0, .slice none 0 0] [(0, _), (1, _), (2, _)] [_, _, _] rfl BP rfl rfl (by repeat (first | exact trivial | refine ⟨⟨rfl, rfl, rfl⟩, ?_⟩)) rfl) rfl ?_
 refine Qw (Qo 12 rfl ?_)
 refine Qx (AT VW [.int .i64 0, .int .i64 0, .slice none 0 0] [(0, _)] [_, _, _] rfl VT rfl rfl (by repeat (first | exact trivial | refine ⟨⟨rfl, rfl, rfl⟩, ?_⟩)) rfl) rfl ?_
 refine Qw (Qo 13 rfl (AS [.int .i64 sp, .int .i64 sp, .slice (some ⟨g15, 0, none⟩) 1 1] rfl rfl rfl rfl rfl rfl (fun g18 => Qw (Qo 14 rfl (Qm rfl (Qw (Qe (Ab (Ao (Ck fun hap => ?_))))))))))
 obtain ⟨hp1, hp2, _⟩ := WH hap
 refine CF (ms' := [AX g15 24 [u], mu, AX g18 110 [.int .i64 sp, .int .i64 sp, .slice (some ⟨g15, 0, none⟩) 1 1]]) (Vi _ _ _) (Cq (A9 (Cq ?_)))
 exact Am rfl rfl (⟨rfl, g18, _, rfl, rfl, StO.mk (Nat.le_refl _) (OwnL.blk (l := [u]) 1 BK rfl (by omega)) (by simp) (Bag.single (by simpa using hO)) hp1.1 hp1.2 hp2⟩)
theorem grow_ok (d : Nat → Nat) (g fr to : Nat) (v : Nat → Nat → Int) (w : Nat → Int) (u : Value) (m h : Hp) (S : StO d g fr to v m) (hR : RdL cI 1 h [] u (vec (d (to + 1)) w)) (hd : d (to + 1) ≤ 400) (hto : to ≤ 1000) :
  FnT Tryz.prog 113 #[.pointer (some ⟨g, 0, none⟩), u] h [m] (fun x h' ms' => h = h' ∧ ∃ m', ms' = [m'] ∧ StO d g fr (to + 1) (fun k => if k = to + 1 then w else v k) m') := by
 obtain ⟨vv, es, ma, mb, h0, rfl, hd1, hd2, hO, hl, B⟩ := S
 have ew := AQ (d (to + 1)) w
 refine Av func113 ntmps113 rfl rfl (fun w0 hw0 => ?_)
 simp only [A4]
 refine Il hd1 (Di (Il hd2 ?_))
 refine Bv (fun s hh ms' => ∃ (vv' : Value) (es' : List Value) (ma' mb' : Hp), s = [(0, .pointer (some ⟨g, 0, none⟩))] ∧ h = hh ∧ ms' = [ma', mb', AX g 110 [.int .i64 fr, .int .i64 to, vv']] ∧ OwnL cV 1 24 ma' vv' es' ∧ es'.length = to + 1 + 1 - fr ∧ VecB d fr es'.length es' (fun k => if k = to + 1 then w else v k) mb') ?_ (fun s h ms hI => ?_)
 ·refine AW (n := 14) (bs := [true, true, true, true, true, false, true, false, false, false, true, true, true, false]) [true, true, true, true, true, false, true, false, false, false, true, true, true] Cd (by kernel_rfl) (by kernel_rfl) rfl rfl (Qq rfl (Qq rfl (Qq rfl (QF C7 rfl (QF CY rfl (Qq rfl (Qq rfl (QF C7 rfl (QF CY rfl ?_)))))))))
  unfold CD
  simp only [List.cons_append, List.nil_append]
  refine A2 [5, 7] (by kernel_rfl) rfl ?_
  refine Az rfl ?_ ?_
  ·refine Ql rfl underlying62 (Cell.blk 2 (k := 2) rfl rfl) (Qw (Qo 7 rfl (Qc call51 rfl (DS (vec (d (to + 1)) w) u h hR (by omega)) (fun u' h1 ms1 l1 hF => ?_))))
   obtain ⟨rfl, mu, rfl, hOu⟩ := hF
   have ou : u'.oneCell' = true := (hOu.rd (h := h) (ms := [mu]) (List.Mem.head _)).rd.one
   refine Qw (Qo 8 rfl (AB [_] rfl underlying62 BN rfl ((hOu.rd (h := h) (ms := [mu]) (List.Mem.head _)).rd.cells) rfl rfl (by omega) rfl rfl rfl (fun g12 => Qw (Qo 9 rfl ?_))))
   refine Ba 2 hO (RdL.one BK (List.Mem.head _) rfl) rfl underlying62 BN rfl (by omega) rfl rfl rfl (Cj ou) (by simp only [List.length_singleton]; omega) (by simp only [List.length_singleton]; omega) rfl rfl rfl (fun vv' ma' hO' => ?_)
   have ov : vv'.oneCell' = true := (hO'.rd (h := h) (ms := [ma']) (List.Mem.head _)).rd.one
   refine Qw (Qo 13 rfl ?_)
   refine AK 4 _ rfl Co rfl rfl (by assumption) rfl rfl (by (simp; done)) rfl rfl ?_
   refine Qw (Qe (AP 0 rfl (CF (ms' := [mb, mu, ma', AX g 110 [.int .i64 fr, .int .i64 to, vv']]) (RE _ _ _ _) (Ck fun hap => ?_))))
   have hd12 : mb.disj mu := (List.pairwise_cons.1 hap).1 _ List.mem_cons_self
   refine Cq (A9 (AA _ ⟨vv', es ++ [u'], ma', mb.join mu, rfl, rfl, rfl, hO', by rw [List.length_append, List.length_singleton]; omega, IB h0 hl B hOu hd12⟩ Qs))
  refine Az rfl ?_ ?_
  ·refine Qc call51 rfl (DS (vec (d (to + 1)) w) u h hR (by omega)) (fun u' h1 ms1 l1 hF => ?_)
   obtain ⟨rfl, mu, rfl, hOu⟩ := hF
   have ou : u'.oneCell' = true := (hOu.rd (h := h) (ms := [mu]) (List.Mem.head _)).rd.one
   refine Qw (A2 [5, 8] (by kernel_rfl) rfl ?_)
   refine Az rfl ?_ ?_
   ·refine Ql rfl underlying62 (Cell.blk 3 (k := 2) rfl rfl) (Qw (Qo 8 rfl (AB [_] rfl underlying62 BN rfl ((hOu.rd (h := h) (ms := [mu]) (List.Mem.head _)).rd.cells) rfl rfl (by omega) rfl rfl rfl (fun g12 => Qw (Qo 9 rfl ?_)))))
    refine Ba 2 hO (RdL.one BK (List.Mem.head _) rfl) rfl underlying62 BN rfl (by omega) rfl rfl rfl (Cj ou) (by simp only [List.length_singleton]; omega) (by simp only [List.length_singleton]; omega) rfl rfl rfl (fun vv' ma' hO' => ?_)
    have ov : vv'.oneCell' = true := (hO'.rd (h := h) (ms := [ma']) (List.Mem.head _)).rd.one
    refine Qw (Qo 13 rfl ?_)
    refine AK 4 _ rfl Co rfl rfl (by assumption) rfl rfl (by (simp; done)) rfl rfl ?_
    refine Qw (Qe (AP 0 rfl (CF (ms' := [mb, mu, ma', AX g 110 [.int .i64 fr, .int .i64 to, vv']]) (RE _ _ _ _) (Ck fun hap => ?_))))
    have hd12 : mb.disj mu := (List.pairwise_cons.1 hap).1 _ List.mem_cons_self
    refine Cq (A9 (AA _ ⟨vv', es ++ [u'], ma', mb.join mu, rfl, rfl, rfl, hO', by rw [List.length_append, List.length_singleton]; omega, IB h0 hl B hOu hd12⟩ Qs))
   refine Az rfl ?_ ?_
   ·refine AB [_] rfl underlying62 BN rfl ((hOu.rd (h := h) (ms := [mu]) (List.Mem.head _)).rd.cells) rfl rfl (by omega) rfl rfl rfl (fun g12 => Qw (Qo 5 rfl (Ql rfl underlying62 (Cell.blk 4 (k := 2) rfl rfl) (Qw (Qo 9 rfl ?_)))))
    refine Ba 2 hO (RdL.one BK (List.Mem.head _) rfl) rfl underlying62 BN rfl (by omega) rfl rfl rfl (Cj ou) (by simp only [List.length_singleton]; omega) (by simp only [List.length_singleton]; omega) rfl rfl rfl (fun vv' ma' hO' => ?_)
    have ov : vv'.oneCell' = true := (hO'.rd (h := h) (ms := [ma']) (List.Mem.head _)).rd.one
    refine Qw (Qo 13 rfl ?_)
    refine AK 4 _ rfl Co rfl rfl (by assumption) rfl rfl (by (simp; done)) rfl rfl ?_
    refine Qw (Qe (AP 0 rfl (CF (ms' := [mb, mu, ma', AX g 110 [.int .i64 fr, .int .i64 to, vv']]) (RE _ _ _ _) (Ck fun hap => ?_))))
    have hd12 : mb.disj mu := (List.pairwise_cons.1 hap).1 _ List.mem_cons_self
    refine Cq (A9 (AA _ ⟨vv', es ++ [u'], ma', mb.join mu, rfl, rfl, rfl, hO', by rw [List.length_append, List.length_singleton]; omega, IB h0 hl B hOu hd12⟩ Qs))
   exact A3
  exact A3
 ·obtain ⟨vv', es', ma', mb', rfl, rfl, rfl, hO', hl', B'⟩ := hI
  refine Ad (Qm rfl (Qm rfl (Qf C7 rfl (Qf Fd rfl (Ql rfl underlying3 (Cell.blk 2 (k := 1) rfl rfl) (Qx (oA rfl) rfl (Qm rfl (Qf C7 rfl (Qf Fd rfl ?_)))))))))
  refine AK 2 _ rfl A8 rfl rfl (by rfl) rfl rfl (by (simp; done)) rfl rfl ?_
  refine Ak (Ck fun hap => ?_)
  obtain ⟨hp1, hp2, _⟩ := WH hap
  refine Cq (A9 (Cq ?_))
  exact B6 rfl (⟨rfl, _, rfl, StO.mk (by omega) hO' hl' B' (Hp.disj_symm hp1.2) (Hp.disj_symm hp2) hp1.1⟩)
end Go.Proofs.YtdnelknieikbaaaGreat
namespace Go.Proofs.YtdnelknieikbaaaGreat
open Tryz
open Go.Eng Go.RowKit Go.Lin
variable {d : Nat → Nat} {m : Hp}
structure SM where
 g : Nat
 fr : Nat
 to : Nat
 v : Nat → Nat → Int
def BagS (d : Nat → Nat) (N : Nat) (S : Nat → SM) (m : Hp) : Prop := Bag N (fun l x => StO d (S l).g (S l).fr (S l).to (S l).v x) m
def SM.Bd (p : Int) (d : Nat → Nat) (S : SM) : Prop := ∀ k, S.fr ≤ k → k ≤ S.to → ∀ i, i < d k → 0 ≤ S.v k i ∧ S.v k i < p
theorem BagS.rd {N : Nat} {S : Nat → SM} {h : Hp} (B : BagS d N S m) (hl : m.le h) {l : Nat} (hN : l < N) : We h d (S l).g (S l).fr (S l).to (S l).v := by
 obtain ⟨x, hx, O⟩ := Bag.all B l hN
 exact O.rd (Hp.le_trans hx hl)
theorem StO.le {g fr to : Nat} {v : Nat → Nat → Int} (S : StO d g fr to v m) : fr ≤ to := by
 obtain ⟨vv, es, ma, mb, h0, _⟩ := S
 exact h0
theorem BagS.fr_to {N : Nat} {S : Nat → SM} (B : BagS d N S m) {l : Nat} (hN : l < N) : (S l).fr ≤ (S l).to := by
 obtain ⟨x, hx, O⟩ := Bag.all B l hN
 exact O.le
def adds (p n : Int) (s t : Nat) (S : Nat → SM) (l : Nat) : SM := if l = s then { S s with v := HH p n (S t).fr (S s).v (S t).v } else S l
theorem Nn (p n : Int) (d : Nat → Nat) (N s t : Nat) (S : Nat → SM) (mB h : Hp) (hp : 2 ≤ p ∧ p ≤ 997) (hn : 0 ≤ n ∧ n ≤ 997) (hd : ∀ k, d k ≤ 400) (hs : s < N) (ht : t < N) (hne : s ≠ t) (hto : (S s).to = (S t).to) (hto2 : (S s).to ≤ 1000) (bs : (S s).Bd p d) (bt : (S t).Bd p d) (B : BagS d N S mB) :
  FnT Tryz.prog 112 #[.pointer (some ⟨(S s).g, 0, none⟩), .int .i64 p, .int .i64 n, .pointer (some ⟨(S t).g, 0, none⟩)] h [mB] (fun r h' ms' => h = h' ∧ ∃ mB', ms' = [mB'] ∧ BagS d N (adds p n s t S) mB') := by
 obtain ⟨m1, m2, rfl, hdj, hO, hoth, hclose⟩ := Bag.open B hs
 obtain ⟨vv, es, ma, mb, h0, rfl, h1, h2, h3, h4, h5⟩ := hO
 have hd1 : ma.disj m2 := Hp.disj_left (Hp.disj_right hdj)
 have hd2 : mb.disj m2 := Hp.disj_right (Hp.disj_right hdj)
 have hd3 : (AX (S s).g 110 [.int .i64 (S s).fr, .int .i64 (S s).to, vv]).disj m2 := Hp.disj_left hdj
 have g1 := Goes.part hdj []
 have g2 := Goes.parts h1 (List.Perm.refl ((AX (S s).g 110 [.int .i64 (S s).fr, .int .i64 (S s).to, vv]) :: ma.join mb :: [m2]))
 have g3 := Goes.perm (List.Perm.swap (ma.join mb) (AX (S s).g 110 [.int .i64 (S s).fr, .int .i64 (S s).to, vv]) [m2])
 have g4 := Goes.parts h2 (List.Perm.swap mb ma [AX (S s).g 110 [.int .i64 (S s).fr, .int .i64 (S s).to, vv], m2])
 refine Lh (ms1 := [mb] ++ [ma, AX (S s).g 110 [.int .i64 (S s).fr, .int .i64 (S s).to, vv], m2]) (g1.trans (g2.1.trans (g3.trans g4.1))) (fun k hk => I4 k (g2.2 k (Ly (List.Perm.swap _ _ _) k (g4.2 k hk)))) ?_
 refine LU (K2 (post := fun r ms' => ∃ mb', ms' = [mb'] ∧ VecB d (S s).fr es.length es (HH p n (S t).fr (S s).v (S t).v) mb') fun h' hl hm => ?_) ?_
 ·have hlm := hm m2 (by simp)
  obtain ⟨x, hx, hT⟩ := hoth t ht (Ne.symm hne)
  have hT := hT.rd (Hp.le_trans hx hlm)
  rw [← hto] at hT
  exact (U4 p n d (S s).g (S t).g (S s).fr (S t).fr (S s).to (S s).v (S t).v vv es mb h' hp hn hto2 h0 hd bs (by rw [hto]; exact bt) (Seg.ofLe (hm _ (List.Mem.tail _ (List.Mem.head _)))) (h3.rdh (hm _ (List.Mem.head _))) h4 h5 hT).mono fun r h2 ms2 ⟨e, mb', e2, B'⟩ => ⟨mb', e2, B'⟩
 ·rintro r h' ms' ⟨rfl, ms2, rfl, mb', rfl, B'⟩ hap
  have hap' : [mb', ma, AX (S s).g 110 [.int .i64 (S s).fr, .int .i64 (S s).to, vv], m2].Pairwise Hp.disj := hap
  have q1 := List.pairwise_cons.1 hap'
  have q2 := List.pairwise_cons.1 q1.2
  have q3 := List.pairwise_cons.1 q2.2
  have d1 : ma.disj mb' := Hp.disj_symm (q1.1 _ (by simp))
  have d2 : (AX (S s).g 110 [.int .i64 (S s).fr, .int .i64 (S s).to, vv]).disj ma := Hp.disj_symm (q2.1 _ (by simp))
  have d3 : (AX (S s).g 110 [.int .i64 (S s).fr, .int .i64 (S s).to, vv]).disj mb' := Hp.disj_symm (q1.1 _ (by simp))
  have d4 := q1.1 m2 (by simp)
  have d5 := q2.1 m2 (by simp)
  have d6 := q3.1 m2 (by simp)
  have hS := StO.mk (d := d) (g := (S s).g) h0 h3 h4 B' d2 d3 d1
  refine ⟨[((AX (S s).g 110 [.int .i64 (S s).fr, .int .i64 (S s).to, vv]).join (ma.join mb')).join m2], ?_, rfl, _, rfl, ?_⟩
  ·refine (Goes.perm (List.Perm.swap ma mb' _)).trans ((Goes.join ma mb' _).trans ((Goes.perm (List.Perm.swap _ _ _)).trans ((Goes.join _ _ _).trans (Goes.join _ _ _))))
  ·refine hclose _ _ (Hp.disj_join d6 (Hp.disj_join d5 d4)) ?_ fun k hk hks x O => ?_
   ·unfold adds
    rw [if_pos rfl]
    exact hS
   ·unfold adds
    rw [if_neg hks]
    exact O
def HS (s : Nat) (w : Nat → Int) (S : Nat → SM) (l : Nat) : SM := if l = s then { S s with to := (S s).to + 1, v := fun k => if k = (S s).to + 1 then w else (S s).v k } else S l
theorem KZ (d : Nat → Nat) (N s : Nat) (S : Nat → SM) (w : Nat → Int) (u : Value) (mB h : Hp) (hs : s < N) (hR : RdL cI 1 h [] u (vec (d ((S s).to + 1)) w)) (hd : d ((S s).to + 1) ≤ 400) (hto : (S s).to ≤ 1000) (B : BagS d N S mB) :
  FnT Tryz.prog 113 #[.pointer (some ⟨(S s).g, 0, none⟩), u] h [mB] (fun x h' ms' => h = h' ∧ ∃ mB', ms' = [mB'] ∧ BagS d N (HS s w S) mB') := by
 obtain ⟨m1, m2, rfl, hdj, hO, hoth, hclose⟩ := Bag.open B hs
 refine Lh (ms1 := [m1] ++ [m2]) (Goes.part hdj []) I4 ?_
 refine LU (K2 (post := fun r ms' => ∃ m', ms' = [m'] ∧ StO d (S s).g (S s).fr ((S s).to + 1) (fun k => if k = (S s).to + 1 then w else (S s).v k) m') fun h' hl hm => ?_) ?_
 ·exact (grow_ok d (S s).g (S s).fr (S s).to (S s).v w u m1 h' hO (hR.up hl) hd hto).mono fun r h2 ms2 ⟨e, m', e2, S'⟩ => ⟨m', e2, S'⟩
 ·rintro r h' ms' ⟨rfl, ms2, rfl, m', rfl, S'⟩ hap
  have d1 : m'.disj m2 := (List.pairwise_cons.1 hap).1 _ (by simp)
  refine ⟨[m'.join m2], Goes.join _ _ _, rfl, _, rfl, hclose _ _ d1 ?_ fun k hk hks x O => ?_⟩
  ·unfold HS
   rw [if_pos rfl]
   exact S'
  ·unfold HS
   rw [if_neg hks]
   exact O
end Go.Proofs.YtdnelknieikbaaaGreat
namespace Go.Proofs.YtdnelknieikbaaaGreat
open Tryz
open Go.Eng Go.RowKit Go.Lin
def PJ (n i : Nat) (f : Nat → Int) (a : Nat) : Int := if a < i ∨ n - 1 - a < i then f (n - 1 - a) else f a
theorem S8 (n i : Nat) (f : Nat → Int) {a : Nat} (h1 : i ≤ a) (h2 : i ≤ n - 1 - a) : PJ n i f a = f a := if_neg (by omega)
theorem SK {n i : Nat} (f : Nat → Int) (hi : i < n - 1 - i) {a : Nat} (ha : a < n) : (if a = n - 1 - i then f i else if a = i then f (n - 1 - i) else PJ n i f a) = PJ n (i + 1) f a := by
 unfold PJ
 by_cases h1 : a = n - 1 - i
 ·rw [if_pos h1, if_pos (by omega)]; congr 1; omega
 ·rw [if_neg h1]
  by_cases h2 : a = i
  ·rw [if_pos h2, if_pos (by omega), h2]
  ·rw [if_neg h2]
   by_cases h3 : a < i ∨ n - 1 - a < i
   ·rw [if_pos h3, if_pos (by omega)]
   ·rw [if_neg h3, if_neg (by omega)]
theorem IY (n : Nat) (f : Nat → Int) (v : Value) (m h : Hp) (hn : n ≤ 1000000) (O : OwnL cI 1 3 m v (vec n f)) :
  FnT Tryz.prog 52 #[v] h [m] (fun x h' ms' => h = h' ∧ ∃ m', ms' = [m'] ∧ OwnL cI 1 3 m' v (vec n fun a => f (n - 1 - a))) := by
 have hRd : ∀ (f : Nat → Int) m, OwnL cI 1 3 m v (vec n f) → Rd h [m] v 1 n ((vec n f).flatMap cI) := fun f m O => by
  have := (O.rd (h := h) (ms := [m]) (List.Mem.head _)).rd
  rwa [AQ] at this
 refine Av func52 ntmps52 rfl rfl (fun w0 hw0 => ?_)
 simp only [A4]
 refine Ax (Qm rfl (Qx (AJ (hRd _ _ O) rfl underlying24 rfl) rfl (Qx (oS rfl) rfl (Qm rfl (Qm rfl (Aq (Ag ?_)))))))
 refine AD (fun q s hh ms' => ∃ (i : Nat) (m : Hp), q = n + 1 - i ∧ s = [(0, v), (2, .int .i64 i), (3, .int .i64 ((n : Int) - 1 - i))] ∧ h = hh ∧ ms' = [m] ∧ i ≤ n ∧ OwnL cI 1 3 m v (vec n (PJ n i f)))
  (n + 1 - 0) [(0, v), (2, .int .i64 0), (3, .int .i64 ((n : Int) - 1))] ⟨0, m, rfl, by rw [show ((n : Int) - 1 - (0 : Nat)) = (n : Int) - 1 by omega]; rfl, rfl, rfl, by omega, by rw [BA (f := PJ n 0 f) (g := f) (fun a _ => if_neg (by omega))]; exact O⟩ Qs ?_
 rintro q s hh ms' ⟨i, m, rfl, rfl, rfl, rfl, hi, O⟩
 refine Ac (Ax (Qm rfl (Qm rfl (Qm rfl (Aq ?_)))))
 refine AF rfl (fun hlt => ?_) (fun hlt => ?_)
 ·have hin : i < n - 1 - i := by omega
  have e1 : (n : Int) - 1 - i = ((n - 1 - i : Nat) : Int) := by omega
  have hi2 : n - 1 - i < n := by omega
  have c1 : ∀ {j : Nat}, j < n → i ≤ j → i ≤ n - 1 - j → ∀ ms, m ∈ ms → Cell h ms ((Bl v).add (j * 1)) (.int .i64 (f j)) := fun hj h1 h2 ms hm => by
   have := (O.rd (h := h) hm).ev hj
   rwa [S8 n i f h1 h2] at this
  have el : (vec n (PJ n i f)).length = n := AQ _ _
  have el2 : ∀ x, ((vec n (PJ n i f)).set i x).length = n := fun x => by rw [List.length_set, AQ]
  refine Ai (Ab ?_)
  refine Bv (fun s hh ms' => ∃ (m2 : Hp), s = [(0, v), (2, .int .i64 i), (3, .int .i64 ((n : Int) - 1 - i))] ∧ h = hh ∧ ms' = [m2] ∧ OwnL cI 1 3 m2 v (((vec n (PJ n i f)).set i (f (n - 1 - i))).set (n - 1 - i) (f i))) ?_ (fun s h ms hI => ?_)
  ·refine Ag (AW (n := 16) (bs := [true, true, true, true, true, true, true, false, true, true, true, false, true, false, true, false]) [true, true, true, true, true, true, true, false, true, true, true, false, true, false, true] Cd (by kernel_rfl) (by kernel_rfl) rfl rfl (Qq rfl (Qq rfl (Qq rfl (Qq rfl (Qq rfl (Qq rfl (Qp rfl (Bo (n - 1 - i) (hRd _ _ O) rfl underlying24 A8 rfl rfl (by omega) (by omega)) (Qq rfl (Qq rfl (Qp rfl (Bo (i) (hRd _ _ O) rfl underlying24 A8 rfl rfl (by omega) (by omega)) (Qp rfl (Bo (i) (hRd _ _ O) rfl underlying24 A8 rfl rfl (by omega) (by omega)) (Qp rfl (Bo (n - 1 - i) (hRd _ _ O) rfl underlying24 A8 rfl rfl (by omega) (by omega)) ?_)))))))))))))
   unfold CD
   simp only [List.cons_append, List.nil_append]
   refine A2 [7, 11] (by kernel_rfl) rfl ?_
   refine Az rfl ?_ ?_
   ·refine Ql rfl underlying3 (c1 (show n - 1 - i < n by omega) (by omega) (by omega) _ (List.Mem.head _)) ?_
    refine Qw (Qo 11 rfl ?_)
    refine Ql rfl underlying3 (c1 (show i < n by omega) (by omega) (by omega) _ (List.Mem.head _)) ?_
    refine Qw (Qo 13 rfl (Bu 0 i O rfl A8 rfl rfl rfl (by omega) rfl rfl (fun m1 O1 => Qw (Qo 15 rfl ?_))))
    refine Bu 0 (n - 1 - i) O1 rfl A8 rfl rfl rfl (by rw [el2]; omega) rfl rfl (fun m2 O2 => ?_)
    refine Qw (Qe ?_)
    exact Aj (AA _ ⟨m2, rfl, rfl, rfl, O2⟩ Qs)
   refine Az rfl ?_ ?_
   ·refine Ql rfl underlying3 (c1 (show i < n by omega) (by omega) (by omega) _ (List.Mem.head _)) ?_
    refine Qw (Qo 7 rfl ?_)
    refine Ql rfl underlying3 (c1 (show n - 1 - i < n by omega) (by omega) (by omega) _ (List.Mem.head _)) ?_
    refine Qw (Qo 13 rfl (Bu 0 i O rfl A8 rfl rfl rfl (by omega) rfl rfl (fun m1 O1 => Qw (Qo 15 rfl ?_))))
    refine Bu 0 (n - 1 - i) O1 rfl A8 rfl rfl rfl (by rw [el2]; omega) rfl rfl (fun m2 O2 => ?_)
    refine Qw (Qe ?_)
    exact Aj (AA _ ⟨m2, rfl, rfl, rfl, O2⟩ Qs)
   exact A3
  ·obtain ⟨m2, rfl, rfl, rfl, O2⟩ := hI
   refine Ad (Qm rfl (Qx (oA rfl) rfl (Qm rfl (Qx (oS rfl) rfl (Qm rfl (Qm rfl (Ak ?_)))))))
   refine Al (n + 1 - (i + 1)) [(0, v), (2, .int .i64 ((i : Int) + 1)), (3, .int .i64 ((n : Int) - 1 - i - 1))] (by omega) ⟨i + 1, m2, rfl, by rw [show ((n : Int) - 1 - i - 1) = (n : Int) - 1 - (i + 1 : Nat) by omega]; rfl, rfl, rfl, by omega, ?_⟩ Qs
   rw [D6, D6, BA (fun a ha => SK f hin ha)] at O2
   exact O2
 ·refine Aw (Aa (Aa (Af ?_)))
  have e1 : ∀ a, a < n → PJ n i f a = f (n - 1 - a) := fun a ha => by
   unfold PJ
   by_cases h1 : a < i ∨ n - 1 - a < i
   ·rw [if_pos h1]
   ·rw [if_neg h1]; congr 1; omega
  exact B6 rfl (⟨rfl, m, rfl, by rw [BA e1] at O; exact O⟩)
end Go.Proofs.YtdnelknieikbaaaGreat
namespace Go.Proofs.YtdnelknieikbaaaGreat
open Go.Eng Go.RowKit Go.Lin
variable {S : Nat → SM} {Z : Zg} {N k s l i t : Nat} {al en st : List Nat} {p n : Int} {w : Nat → Nat → Int} {x : Nat → Int}
theorem _root_.Go.Lin.Valid.congr {D D' : Dc} (V : Valid Z D) (hN : D'.N = D.N) (hf : ∀ l, l < D.N → D'.fr l = D.fr l ∧ D'.to l = D.to l) (hv : ∀ l, l < D.N → ∀ k, D.on k l = true → ∀ i, i < Z.d k → Cg Z.p (D'.vec l k i) (D.vec l k i)) : Valid Z D' := by
 have hon : ∀ k l, l < D.N → D'.on k l = D.on k l := fun k l hl => by unfold Dc.on; rw [(hf l hl).1, (hf l hl).2]
 refine ⟨fun l hl => ?_, fun k hk => ?_, fun k hk => ?_, fun k hk l hl ho i hi => ?_⟩
 ·rw [hN] at hl; rw [(hf l hl).1, (hf l hl).2]; exact V.ends l hl
 ·rw [hN]
  exact (V.ind k hk).congr (fun l hl => (hon k l hl).symm) fun l hl ho i hi => hv l hl k ho i hi
 ·rw [hN, CC fun l hl => hon k l hl]; exact V.cnt k hk
 ·rw [hN] at hl
  rw [hon _ l hl] at ho ⊢
  refine (EC (fun j hj => hv l hl _ ho j hj) i).trans ((V.arr k hk l hl ho i hi).trans ?_)
  cases h : D.on (Z.tgt k) l with
  | false => exact Cg.refl _ _
  | true => exact (hv l hl _ h i hi).symm
theorem Rk (F : Lin.Fld p) {n d : Nat} (hI : Ind p n tt d w) (hno : ¬ ∃ x : Nat → Int, ∀ a, a < d → Cg p (Bj n tt x w a) (w n a)) : Ind p (n + 1) tt d w := by
 intro c hc
 have e : ∀ a, Bj (n + 1) tt c w a = Bj n tt c w a + c n * w n a := fun a => rfl
 have hn : p ∣ c n := Classical.byContradiction fun h => by
  obtain ⟨u, hu⟩ := F.inv _ h
  refine hno ⟨fun l => -(u * c l), fun a ha => ?_⟩
  have h1 := hc a ha
  rw [e] at h1
  have h2 : Cg p (u * (Bj n tt c w a + c n * w n a)) 0 := by
   have := (Cg.refl p u).mul h1
   rwa [Int.mul_zero] at this
  have h3 : Cg p (u * (c n * w n a)) (w n a) := by
   have := hu.mul (Cg.refl p (w n a))
   rwa [Int.one_mul, Int.mul_comm (c n), Int.mul_assoc] at this
  have h4 : Bj n tt (fun l => -(u * c l)) w a = -(u * Bj n tt c w a) := by
   rw [Cs, Cs, ← Int.neg_mul, ← Cb]
   exact AE fun l _ => by rw [Int.neg_mul, Int.mul_assoc, Int.neg_mul]
  rw [h4]
  rw [Int.mul_add] at h2
  have h5 := h2.sub h3
  have e5 : u * Bj n tt c w a + u * (c n * w n a) - u * (c n * w n a) = u * Bj n tt c w a := by omega
  have h6 : Cg p (u * Bj n tt c w a) (0 - w n a) := by rwa [e5] at h5
  have := h6.neg
  rwa [show -(0 - w n a) = w n a by omega] at this
 intro l hl hb
 rcases (by omega : l < n ∨ l = n) with h | rfl
 ·refine hI c (fun a ha => ?_) l h rfl
  have h1 := hc a ha
  rw [e] at h1
  have h2 : Cg p (c n * w n a) 0 := by unfold Cg; rw [Int.sub_zero]; exact Int.dvd_mul_of_dvd_left hn
  have := h1.sub h2
  rwa [Int.add_sub_cancel, Int.sub_zero] at this
 ·exact hn
def Dr (N : Nat) (S : Nat → SM) : Dc := ⟨N, fun l => (S l).fr, fun l => (S l).to, fun l => (S l).v⟩
structure Mch (Z : Zg) (k N : Nat) (S : Nat → SM) (al en : List Nat) : Prop where
 val : Valid (Z.tr k) (Dr N S)
 perm : (en ++ al).Perm (List.range N)
 live : ∀ l ∈ al, (S l).to = k
 dead : ∀ l ∈ en, (S l).to < k
 ord : al.Pairwise ((Dr N S).may Z)
 bd : ∀ l, l < N → (S l).Bd Z.p Z.d
theorem Mch.lt (M : Mch Z k N S al en) (h : l ∈ al) : l < N := List.mem_range.1 (M.perm.mem_iff.1 (List.mem_append_right _ h))
theorem Mch.nodup (M : Mch Z k N S al en) : al.Nodup := (List.nodup_append.1 (M.perm.nodup_iff.2 List.nodup_range)).2.1
theorem Mch.in_ (M : Mch Z k N S al en) (h : l < N) (ht : (S l).to = k) : l ∈ al := by
 rcases List.mem_append.1 (M.perm.mem_iff.2 (List.mem_range.2 h)) with h1 | h1
 ·have := M.dead l h1; omega
 ·exact h1
theorem Mch.cnt_al (M : Mch Z k N S al en) : al.length = Z.d k := by
 have h := M.val.cnt k (show k < k + 1 by omega)
 have hp : al.Perm (Df N ((Dr N S).on k)) := FA M.nodup fun l => by
  constructor
  ·intro hl
   have h1 := M.lt hl
   have h2 := M.live l hl
   have h3 := M.val.ends l h1
   exact ⟨h1, Dc.on_iff.2 ⟨by have : (S l).fr ≤ (S l).to := h3.1; show (S l).fr ≤ k; omega, by show k ≤ (S l).to; omega⟩⟩
  ·rintro ⟨h1, h2⟩
   have h3 := (M.val.ends l h1).2
   have h4 := (Dc.on_iff.1 h2).2
   exact M.in_ h1 (by have h5 : (S l).to < k + 1 := h3; have h6 : k ≤ (S l).to := h4; omega)
 exact (H7 hp).symm.trans h
structure Fw (Z : Zg) (k N : Nat) (S0 S : Nat → SM) (al st de : List Nat) (i : Nat) (w : Nat → Nat → Int) : Prop where
 val : Valid (Z.tr k) (Dr N S)
 same : ∀ l, (S l).g = (S0 l).g ∧ (S l).fr = (S0 l).fr ∧ (S l).to = (S0 l).to
 bd : ∀ l, l < N → (S l).Bd Z.p Z.d
 sub : st.Sublist (al.take i)
 perm : (st ++ de).Perm (al.take i)
 im : ∀ t, t < st.length → ∀ a, a < Z.d (k + 1) → w t a = ap (Z.mat k) (Z.d k) ((S (st.getD t 0)).v k) a % Z.p
 ind : Ind Z.p st.length tt (Z.d (k + 1)) w
 dead : ∀ l ∈ de, ∀ a, a < Z.d (k + 1) → Cg Z.p (ap (Z.mat k) (Z.d k) ((S l).v k) a) 0
theorem SF (p : Int) (d : Nat) (w : Nat → Nat → Int) : Ind p 0 tt d w := fun c hc l hl => by omega
theorem Fw.start (M : Mch Z k N S al en) (w : Nat → Nat → Int) : Fw Z k N S S al [] [] 0 w :=
 ⟨M.val, fun _ => ⟨rfl, rfl, rfl⟩, M.bd, by simp, by simp, fun t ht => by simp at ht, SF _ _ _, fun l hl => by simp at hl⟩
theorem BU {l : List Nat} (hi : i < l.length) : l.take (i + 1) = l.take i ++ [l.getD i 0] := by
 have e : l.getD i 0 = l[i] := by simp [List.getD, hi]
 rw [e, List.take_append_getElem hi]
theorem Fw.stay (F : Lin.Fld Z.p) {S0 : Nat → SM} {de : List Nat} {w' : Nat → Nat → Int} (W : Fw Z k N S0 S al st de i w) (hi : i < al.length) (hw : ∀ t, t < st.length → ∀ a, a < Z.d (k + 1) → w' t a = w t a) (hv : ∀ a, a < Z.d (k + 1) → w' st.length a = ap (Z.mat k) (Z.d k) ((S (al.getD i 0)).v k) a % Z.p)
  (hno : ∀ x : Nat → Int, ¬ ∀ a, a < Z.d (k + 1) → Cg Z.p (ap (fun i j => w j i) st.length x a) (w' st.length a)) : Fw Z k N S0 S al (st ++ [al.getD i 0]) de (i + 1) w' := by
 refine ⟨W.val, W.same, W.bd, ?_, ?_, fun t ht a ha => ?_, ?_, W.dead⟩
 ·rw [BU hi]; exact W.sub.append_right _
 ·rw [BU hi]
  have h1 : (st ++ [al.getD i 0] ++ de).Perm ((st ++ de) ++ [al.getD i 0]) := by
   rw [List.append_assoc, List.append_assoc]
   exact List.Perm.append_left _ List.perm_append_comm
  exact h1.trans (W.perm.append_right _)
 ·rw [List.length_append, List.length_singleton] at ht
  rcases (by omega : t < st.length ∨ t = st.length) with h | rfl
  ·rw [hw t h a ha, JP h]; exact W.im t h a ha
  ·rw [FD]; exact hv a ha
 ·rw [List.length_append, List.length_singleton]
  refine Rk F (W.ind.congr (fun _ _ => rfl) fun l hl _ a ha => Cg.of_eq (hw l hl a ha)) fun ⟨x, hx⟩ => hno x fun a ha => Cg.trans (Cg.of_eq ?_) (hx a ha)
  rw [Cs]
  exact AE fun t ht => by rw [hw t ht a ha, Int.mul_comm]
structure FwI (Z : Zg) (k N : Nat) (S S' : Nat → SM) (st : List Nat) (s : Nat) (x : Nat → Int) (j : Nat) : Prop where
 val : Valid (Z.tr k) (Dr N S')
 same : ∀ l, (S' l).g = (S l).g ∧ (S' l).fr = (S l).fr ∧ (S' l).to = (S l).to
 bd : ∀ l, l < N → (S' l).Bd Z.p Z.d
 other : ∀ l, l ≠ s → S' l = S l
 sum : ∀ a, a < Z.d k → Cg Z.p ((S' s).v k a) ((S s).v k a + sm j fun t => (Z.p - x t) * (S (st.getD t 0)).v k a)
theorem FwI.start (hV : Valid (Z.tr k) (Dr N S)) (hb : ∀ l, l < N → (S l).Bd Z.p Z.d) : FwI Z k N S S st s x 0 :=
 ⟨hV, fun _ => ⟨rfl, rfl, rfl⟩, hb, fun _ _ => rfl, fun a _ => Cg.of_eq (by show _ = _ + (0 : Int); rw [Int.add_zero])⟩
theorem Po : Dr N (adds p n s t S) = (Dr N S).adds p s t n := by
 have h1 : (fun l => (adds p n s t S l).fr) = fun l => (S l).fr := funext fun l => by
  unfold adds; split
  ·rename_i h; rw [h]
  ·rfl
 have h2 : (fun l => (adds p n s t S l).to) = fun l => (S l).to := funext fun l => by
  unfold adds; split
  ·rename_i h; rw [h]
  ·rfl
 have h3 : (fun l => (adds p n s t S l).v) = ((Dr N S).adds p s t n).vec := funext fun l => funext fun k => funext fun i => by
  show _ = if l = s ∧ (S t).fr ≤ k then ((S l).v k i + n * (S t).v k i) % p else (S l).v k i
  unfold adds
  by_cases h : l = s
  ·subst h
   rw [if_pos rfl]
   show HH p n (S t).fr (S l).v (S t).v k i = _
   unfold HH
   by_cases h2 : (S t).fr ≤ k
   ·rw [if_pos h2, if_pos ⟨rfl, h2⟩]
   ·rw [if_neg h2, if_neg fun h => h2 h.2]
  ·rw [if_neg h, if_neg fun h2 => h h2.1]
 show Dc.mk N _ _ _ = Dc.mk N _ _ _
 rw [h1, h2, h3]
 rfl
theorem Hv (l : Nat) : (adds p n s t S l).g = (S l).g ∧ (adds p n s t S l).fr = (S l).fr ∧ (adds p n s t S l).to = (S l).to := by
 unfold adds; split
 ·rename_i h; rw [h]; exact ⟨rfl, rfl, rfl⟩
 ·exact ⟨rfl, rfl, rfl⟩
theorem S9 {d : Nat → Nat} (hp : 0 < p) (h : (S l).Bd p d) : (adds p n s t S l).Bd p d := by
 intro k h1 h2 i hi
 rw [(Hv l).2.1] at h1
 rw [(Hv l).2.2] at h2
 unfold adds
 split
 ·rename_i hls
  subst hls
  show 0 ≤ HH p n (S t).fr (S l).v (S t).v k i ∧ HH p n (S t).fr (S l).v (S t).v k i < p
  unfold HH
  split
  ·exact ⟨Int.emod_nonneg _ (by omega), Int.emod_lt_of_pos _ hp⟩
  ·exact h k h1 h2 i hi
 ·exact h k h1 h2 i hi
theorem FwI.step (hp : 0 < Z.p) {S' : Nat → SM} {j : Nat} (W : FwI Z k N S S' st s x j) (hs : s < N) (ht : st.getD j 0 < N) (hne : st.getD j 0 ≠ s) (hks : (S s).to = k) (hkt : (S (st.getD j 0)).to = k) (hm : (Dr N S).may Z (st.getD j 0) s) : FwI Z k N S (adds Z.p (Z.p - x j) s (st.getD j 0) S') st s x (j + 1) := by
 have hm' : (Dr N S').may Z (st.getD j 0) s := by
  unfold Dc.may at hm ⊢
  show (S' (st.getD j 0)).fr = (S' s).fr ∨ ((S' s).fr < (S' (st.getD j 0)).fr ∧ Z.back ((S' (st.getD j 0)).fr - 1) = true) ∨ ((S' (st.getD j 0)).fr < (S' s).fr ∧ Z.back ((S' s).fr - 1) = false)
  rw [(W.same s).2.1, (W.same (st.getD j 0)).2.1]
  exact hm
 refine ⟨?_, fun l => ?_, fun l hl => S9 hp (W.bd l hl), fun l hl => ?_, fun a ha => ?_⟩
 ·rw [Po]
  exact SZ (Z := Z.tr k) (K := k) rfl W.val hs ht (Ne.symm hne) (by show (S' s).to = k; rw [(W.same s).2.2]; exact hks) (by show (S' (st.getD j 0)).to = k; rw [(W.same _).2.2]; exact hkt) hm'
 ·have h1 := Hv (S := S') (p := Z.p) (n := Z.p - x j) (s := s) (t := st.getD j 0) l
  have h2 := W.same l
  exact ⟨h1.1.trans h2.1, h1.2.1.trans h2.2.1, h1.2.2.trans h2.2.2⟩
 ·unfold adds; rw [if_neg hl]; exact W.other l hl
 ·have e1 : (adds Z.p (Z.p - x j) s (st.getD j 0) S' s).v k a = ((S' s).v k a + (Z.p - x j) * (S' (st.getD j 0)).v k a) % Z.p := by
   unfold adds
   rw [if_pos rfl]
   show HH _ _ _ _ _ k a = _
   unfold HH
   rw [if_pos]
   have := (W.val.ends _ ht).1
   have h5 : (S' (st.getD j 0)).fr ≤ (S' (st.getD j 0)).to := this
   rw [(W.same (st.getD j 0)).2.2, hkt] at h5
   exact h5
  rw [e1]
  refine (Cg.mod _ _).trans ?_
  show Cg Z.p _ ((S s).v k a + (sm j _ + _))
  rw [W.other _ hne, ← Int.add_assoc]
  exact (W.sum a ha).add (Cg.refl _ _)
theorem Fw.ends {S0 S' : Nat → SM} {de : List Nat} (W : Fw Z k N S0 S al st de i w) (hi : i < al.length) (hnd : al.Nodup) (I : FwI Z k N S S' st (al.getD i 0) x st.length)
  (hx : ∀ a, a < Z.d (k + 1) → Cg Z.p (ap (fun i j => w j i) st.length x a) (ap (Z.mat k) (Z.d k) ((S (al.getD i 0)).v k) a)) : Fw Z k N S0 S' al st (de ++ [al.getD i 0]) (i + 1) w := by
 have hni : ∀ l, l ∈ al.take i → l ≠ al.getD i 0 := fun l hl he => by
  have h1 : (al.take (i + 1)).Nodup := hnd.sublist (List.take_sublist _ _)
  rw [BU hi] at h1
  exact (List.nodup_append.1 h1).2.2 l hl _ (by simp) he
 have hst : ∀ t, t < st.length → st.getD t 0 ≠ al.getD i 0 := fun t ht => hni _ (W.sub.subset (by simp [List.getD, ht]))
 have hde : ∀ l ∈ de, l ≠ al.getD i 0 := fun l hl => hni _ (W.perm.mem_iff.1 (List.mem_append_right _ hl))
 refine ⟨I.val, fun l => ?_, I.bd, ?_, ?_, fun t ht a ha => ?_, W.ind, fun l hl a ha => ?_⟩
 ·have h1 := I.same l
  have h2 := W.same l
  exact ⟨h1.1.trans h2.1, h1.2.1.trans h2.2.1, h1.2.2.trans h2.2.2⟩
 ·rw [BU hi]; exact W.sub.trans (List.sublist_append_left _ _)
 ·rw [BU hi, ← List.append_assoc]; exact W.perm.append_right _
 ·rw [I.other _ (hst t ht)]; exact W.im t ht a ha
 ·rcases List.mem_append.1 hl with hl | hl
  ·rw [I.other _ (hde l hl)]; exact W.dead l hl a ha
  ·rw [List.mem_singleton.1 hl]
   have h1 : Cg Z.p (ap (Z.mat k) (Z.d k) ((S' (al.getD i 0)).v k) a) (ap (Z.mat k) (Z.d k) ((S (al.getD i 0)).v k) a + sm st.length fun t => (Z.p - x t) * ap (Z.mat k) (Z.d k) ((S (st.getD t 0)).v k) a) := by
    refine (EC (fun j hj => I.sum j hj) a).trans (Cg.of_eq ?_)
    rw [Md (Z.mat k) (Z.d k) ((S (al.getD i 0)).v k) (fun j => sm st.length fun t => (Z.p - x t) * (S (st.getD t 0)).v k j) a]
    congr 1
    have := FY (Z.mat k) (Z.d k) st.length tt (fun t => Z.p - x t) (fun t => (S (st.getD t 0)).v k) a
    rw [show ap (Z.mat k) (Z.d k) (Bj st.length tt (fun t => Z.p - x t) fun t => (S (st.getD t 0)).v k) a = ap (Z.mat k) (Z.d k) (fun j => sm st.length fun t => (Z.p - x t) * (S (st.getD t 0)).v k j) a from AE fun j _ => by rw [Cs]] at this
    rw [this]
    exact AE fun t _ => if_pos rfl
   have h2 : Cg Z.p (sm st.length fun t => (Z.p - x t) * ap (Z.mat k) (Z.d k) ((S (st.getD t 0)).v k) a) (-(ap (fun i j => w j i) st.length x a)) := by
    have h3 : Cg Z.p (sm st.length fun t => (Z.p - x t) * ap (Z.mat k) (Z.d k) ((S (st.getD t 0)).v k) a) (sm st.length fun t => (-1) * (w t a * x t)) := by
     refine Cg.sm fun t ht => ?_
     have h4 : Cg Z.p (ap (Z.mat k) (Z.d k) ((S (st.getD t 0)).v k) a) (w t a) := by rw [W.im t ht a ha]; exact (Cg.mod _ _).symm
     have h5 : Cg Z.p (Z.p - x t) (0 - x t) := (Cg.self Z.p).sub (Cg.refl _ _)
     refine (h5.mul h4).trans (Cg.of_eq ?_)
     rw [Int.zero_sub, Int.neg_mul, Int.mul_comm (x t), Int.neg_mul, Int.one_mul]
    rw [Cb] at h3
    refine h3.trans (Cg.of_eq ?_)
    unfold ap
    rw [Int.neg_mul, Int.one_mul]
   refine (h1.trans ((Cg.refl _ _).add h2)).trans ?_
   have h6 := (Cg.refl Z.p (ap (Z.mat k) (Z.d k) ((S (al.getD i 0)).v k) a)).add (hx a ha).neg
   rwa [Int.add_right_neg] at h6
end Go.Proofs.YtdnelknieikbaaaGreat
namespace Go.Proofs.YtdnelknieikbaaaGreat
open Go.Eng Go.RowKit Go.Lin
variable {st pv : List Nat} {k i N l : Nat} {S : Nat → SM} {w u : Nat → Nat → Int} {gb : Nat → Nat}
theorem Of (hs : pv.Pairwise (· < ·)) : ∀ k (hk : k < pv.length), k ≤ pv[k] := by
 have hmono := List.pairwise_iff_getElem.1 hs
 intro k
 induction k with
 | zero => intro _; exact Nat.zero_le _
 | succ k ih => intro hk; have h1 := ih (by omega); have h2 := hmono k (k + 1) (by omega) hk (by omega); omega
theorem Ol (hs : pv.Pairwise (· < ·)) {n : Nat} (hf : ∀ l, l < n → ∃ h : l < pv.length, pv[l] = l) : n ≤ pv.length ∧ from_ n pv = pv.drop n := by
 have hn : n ≤ pv.length := by
  rcases Nat.eq_zero_or_pos n with h | h
  ·omega
  ·obtain ⟨h1, _⟩ := hf (n - 1) (by omega); omega
 refine ⟨hn, ?_⟩
 unfold from_
 conv => lhs; rw [← List.take_append_drop n pv]
 rw [List.filter_append]
 have e1 : (pv.take n).filter (fun j => decide (n ≤ j)) = [] := List.filter_eq_nil_iff.2 fun a ha => by
  obtain ⟨k, hk, rfl⟩ := List.mem_iff_getElem.1 ha
  rw [List.length_take] at hk
  obtain ⟨h1, h2⟩ := hf k (by omega)
  rw [List.getElem_take, h2]; simp; omega
 have e2 : (pv.drop n).filter (fun j => decide (n ≤ j)) = pv.drop n := List.filter_eq_self.2 fun a ha => by
  obtain ⟨k, hk, rfl⟩ := List.mem_iff_getElem.1 ha
  rw [List.length_drop] at hk
  rw [List.getElem_drop]
  have := Of hs (n + k) (by omega)
  simp; omega
 rw [e1, e2, List.nil_append]
def BS (k : Nat) (w : Nat → Nat → Int) (st : List Nat) (i : Nat) (S : Nat → SM) (l : Nat) : SM := if l ∈ st.take i then { S l with to := k + 1, v := fun j => if j = k + 1 then w (st.idxOf l) else (S l).v j } else S l
theorem M3 (k : Nat) (w : Nat → Nat → Int) (st : List Nat) (S : Nat → SM) : BS k w st 0 S = S := funext fun l => if_neg (by simp)
theorem JD (h : l ∉ st.take i) : BS k w st i S l = S l := if_neg h
theorem Ei (hn : st.Nodup) (hi : i < st.length) : st.getD i 0 ∉ st.take i := fun h => by
 have h1 : (st.take (i + 1)).Nodup := hn.sublist (List.take_sublist _ _)
 rw [BU hi] at h1
 exact (List.nodup_append.1 h1).2.2 _ h _ (by simp) rfl
theorem BF (hi : i < st.length) : st.getD i 0 ∈ st := by simp [List.getD, hi]
theorem E5 (hn : st.Nodup) (hi : i < st.length) : st.idxOf (st.getD i 0) = i := by
 have e : st.getD i 0 = st[i] := by simp [List.getD, hi]
 rw [e]; exact hn.idxOf_getElem i hi
theorem M7 (hn : st.Nodup) (hi : i < st.length) (hk : (S (st.getD i 0)).to = k) : HS (st.getD i 0) (w i) (BS k w st i S) = BS k w st (i + 1) S := funext fun l => by
 have hni := JD (k := k) (w := w) (S := S) (Ei hn hi)
 unfold HS
 by_cases h : l = st.getD i 0
 ·rw [if_pos h, hni, hk, h]
  unfold BS
  rw [if_pos (by rw [BU hi]; simp), E5 hn hi]
 ·rw [if_neg h]
  unfold BS
  by_cases h2 : l ∈ st.take i
  ·rw [if_pos h2, if_pos (by rw [BU hi]; simp [h2])]
  ·rw [if_neg h2, if_neg (by rw [BU hi, List.mem_append, List.mem_singleton]; exact fun h3 => h3.elim h2 h)]
def BY (N k : Nat) (gb : Nat → Nat) (u : Nat → Nat → Int) (S : Nat → SM) (l : Nat) : SM := if l < N then S l else ⟨gb l, k + 1, k + 1, fun _ => u (l - N)⟩
theorem ET (h : l < N) : BY N k gb u S l = S l := if_pos h
theorem Dx (h : N ≤ l) : BY N k gb u S l = ⟨gb l, k + 1, k + 1, fun _ => u (l - N)⟩ := if_neg (by omega)
def Gu (N : Nat) (st : List Nat) (w u : Nat → Nat → Int) (l : Nat) : Nat → Int := if l < N then w (st.idxOf l) else u (l - N)
theorem K4 {Z : Zg} {nb : Nat} {S0 : Nat → SM} {al en de : List Nat} (M : Mch Z k N S0 al en) (hV : Valid (Z.tr k) (Dr N S)) (hs : ∀ l, (S l).g = (S0 l).g ∧ (S l).fr = (S0 l).fr ∧ (S l).to = (S0 l).to) (hb : ∀ l, l < N → (S l).Bd Z.p Z.d) (hsub : st.Sublist al) (hperm : (st ++ de).Perm al)
  (al' : List Nat) (hal' : al'.Perm (st ++ List.range' N nb)) (hI : Ind Z.p al'.length tt (Z.d (k + 1)) (fun t => Gu N st w u (al'.getD t 0))) (hc : al'.length = Z.d (k + 1))
  (hf : Z.back k = false → ∀ l, l < N → (S l).to = k → ∀ i, i < Z.d (k + 1) → Cg Z.p (ap (Z.mat k) (Z.d k) ((S l).v k) i) (if l ∈ st then w (st.idxOf l) i else 0))
  (hbk : Z.back k = true → (∀ l ∈ st, ∀ i, i < Z.d k → Cg Z.p (ap (Z.mat k) (Z.d (k + 1)) (w (st.idxOf l)) i) ((S l).v k i)) ∧ ∀ b, b < nb → ∀ i, i < Z.d k → Cg Z.p (ap (Z.mat k) (Z.d (k + 1)) (u b) i) 0)
  (hwb : ∀ t, t < st.length → ∀ i, i < Z.d (k + 1) → 0 ≤ w t i ∧ w t i < Z.p) (hub : ∀ b, b < nb → ∀ i, i < Z.d (k + 1) → 0 ≤ u b i ∧ u b i < Z.p)
  (hord : al'.Pairwise fun a b => (a < N ∧ b < N ∧ (Dr N S0).may Z a b) ∨ (N ≤ a ∧ N ≤ b) ∨ (a < N ∧ N ≤ b ∧ Z.back k = false) ∨ (N ≤ a ∧ b < N ∧ Z.back k = true)) :
  Mch Z (k + 1) (N + nb) (BY N k gb u (BS k w st st.length S)) al' (en ++ de) := by
 have hst : ∀ l ∈ st, l < N ∧ (S l).to = k := fun l hl => by
  have h := hsub.subset hl
  exact ⟨M.lt h, by rw [(hs l).2.2]; exact M.live l h⟩
 have hnd : st.Nodup := M.nodup.sublist hsub
 have hde : ∀ l ∈ de, l < N ∧ (S l).to = k := fun l hl => by
  have h := hperm.mem_iff.1 (List.mem_append_right _ hl)
  exact ⟨M.lt h, by rw [(hs l).2.2]; exact M.live l h⟩
 have htk : st.take st.length = st := List.take_length
 have hgr : ∀ l, l < N → BY N k gb u (BS k w st st.length S) l = if l ∈ st then { S l with to := k + 1, v := fun j => if j = k + 1 then w (st.idxOf l) else (S l).v j } else S l := fun l hl => by
  rw [ET hl]; unfold BS; rw [htk]
 have hS'bd : ∀ l, l < N + nb → (BY N k gb u (BS k w st st.length S) l).Bd Z.p Z.d := fun l hl => by
  rcases Nat.lt_or_ge l N with h | h
  ·rw [hgr l h]
   by_cases hm : l ∈ st
   ·rw [if_pos hm]
    intro j h1 h2 i hi
    show 0 ≤ (if j = k + 1 then w (st.idxOf l) else (S l).v j) i ∧ (if j = k + 1 then w (st.idxOf l) else (S l).v j) i < Z.p
    have h1' : (S l).fr ≤ j := h1
    have h2' : j ≤ k + 1 := h2
    by_cases hj : j = k + 1
    ·rw [if_pos hj]; subst hj; exact hwb _ (List.idxOf_lt_length_iff.2 hm) i hi
    ·rw [if_neg hj]; exact hb l h j h1' (by rw [(hst l hm).2]; omega) i hi
   ·rw [if_neg hm]; exact hb l h
  ·rw [Dx h]
   intro j h1 h2 i hi
   have h1' : k + 1 ≤ j := h1
   have h2' : j ≤ k + 1 := h2
   obtain rfl : j = k + 1 := by omega
   exact hub (l - N) (by omega) i hi
 refine ⟨?_, ?_, fun l hl => ?_, fun l hl => ?_, ?_, hS'bd⟩
 ·have V := Go.Lin.grow_ok (nb := nb) (L := al') (W := Gu N st w u) hV hst hnd hal' hI hc (fun hbf l hl ht i hi => by
   have := hf hbf l hl ht i hi
   unfold Gu
   rw [if_pos (show l < N from hl)]; exact this) (fun hbt => ⟨fun l hl i hi => by
    have := (hbk hbt).1 l hl i hi
    unfold Gu
    rw [if_pos (hst l hl).1]; exact this, fun l h1 h2 i hi => by
    have h3 : N ≤ l := h1
    have := (hbk hbt).2 (l - N) (by have : l < N + nb := h2; omega) i hi
    unfold Gu
    rw [if_neg (by omega)]; exact this⟩)
  refine V.congr rfl (fun l hl => ?_) (fun l hl j ho i hi => Cg.of_eq ?_)
  ·have hl' : l < N + nb := hl
   show (BY N k gb u (BS k w st st.length S) l).fr = (if l < N then (S l).fr else k + 1) ∧ (BY N k gb u (BS k w st st.length S) l).to = (if l < N then (if l ∈ st then k + 1 else (S l).to) else k + 1)
   rcases Nat.lt_or_ge l N with h | h
   ·rw [hgr l h, if_pos h, if_pos h]
    by_cases hm : l ∈ st
    ·rw [if_pos hm, if_pos hm]; exact ⟨rfl, rfl⟩
    ·rw [if_neg hm, if_neg hm]; exact ⟨rfl, rfl⟩
   ·rw [Dx h, if_neg (by omega), if_neg (by omega)]; exact ⟨rfl, rfl⟩
  ·have ho' := Dc.on_iff.1 ho
   have h1 : (if l < N then (S l).fr else k + 1) ≤ j := ho'.1
   have h2 : j ≤ (if l < N then (if l ∈ st then k + 1 else (S l).to) else k + 1) := ho'.2
   show (BY N k gb u (BS k w st st.length S) l).v j i = if j = k + 1 then Gu N st w u l i else (S l).v j i
   rcases Nat.lt_or_ge l N with h | h
   ·rw [hgr l h]
    rw [if_pos h] at h1 h2
    by_cases hm : l ∈ st
    ·rw [if_pos hm]
     show (if j = k + 1 then w (st.idxOf l) else (S l).v j) i = _
     unfold Gu
     rw [if_pos h]
     split <;> rfl
    ·rw [if_neg hm] at h2 ⊢
     have h3 := (hV.ends l h).2
     have h4 : (S l).to < k + 1 := h3
     rw [if_neg (by omega)]
   ·rw [if_neg (by omega)] at h1 h2
    rw [Dx h]
    have : j = k + 1 := by omega
    subst this
    rw [if_pos rfl]
    unfold Gu
    rw [if_neg (by omega)]
 ·refine (List.Perm.append_left (en ++ de) hal').trans ?_
  have h1 : (en ++ de ++ (st ++ List.range' N nb)).Perm ((en ++ (st ++ de)) ++ List.range' N nb) := by
   rw [← List.append_assoc, List.append_assoc en de st, List.append_assoc en, List.append_assoc en]
   refine List.Perm.append_left en ?_
   exact List.Perm.append_right _ List.perm_append_comm
  refine h1.trans ((List.Perm.append_right _ ((List.Perm.append_left en hperm).trans M.perm)).trans ?_)
  rw [List.range_eq_range', List.range_eq_range']
  rw [show List.range' 0 N ++ List.range' N nb = List.range' 0 (N + nb) by
   have := List.range'_append (s := 0) (m := N) (n := nb) (step := 1)
   simpa using this]
 ·rcases List.mem_append.1 (hal'.mem_iff.1 hl) with h | h
  ·rw [hgr l (hst l h).1, if_pos h]
  ·have := List.mem_range'_1.1 h
   rw [Dx this.1]
 ·rcases List.mem_append.1 hl with h | h
  ·have hlN : l < N := List.mem_range.1 (M.perm.mem_iff.1 (List.mem_append_left _ h))
   have h1 := M.dead l h
   have hns : l ∉ st := fun hm => by have := (hst l hm).2; rw [(hs l).2.2] at this; omega
   rw [hgr l hlN, if_neg hns, (hs l).2.2]; omega
  ·have h2 := hde l h
   have hns : l ∉ st := fun hm => (List.nodup_append.1 (hperm.nodup_iff.2 M.nodup)).2.2 l hm l h rfl
   rw [hgr l h2.1, if_neg hns, h2.2]; omega
 ·have hfr : ∀ l, l < N → (BY N k gb u (BS k w st st.length S) l).fr = (S0 l).fr := fun l h => by
   rw [hgr l h, ← (hs l).2.1]
   split <;> rfl
  have hfr2 : ∀ l, N ≤ l → (BY N k gb u (BS k w st st.length S) l).fr = k + 1 := fun l h => by rw [Dx h]
  have hle : ∀ l, l < N → (S0 l).fr ≤ k := fun l h => by
   have h1 := M.val.ends l h
   have h2 : (S0 l).fr ≤ (S0 l).to := h1.1
   have h3 : (S0 l).to < k + 1 := h1.2
   omega
  refine hord.imp fun {a b} h => ?_
  show (BY N k gb u (BS k w st st.length S) a).fr = (BY N k gb u (BS k w st st.length S) b).fr ∨ ((BY N k gb u (BS k w st st.length S) b).fr < (BY N k gb u (BS k w st st.length S) a).fr ∧ Z.back ((BY N k gb u (BS k w st st.length S) a).fr - 1) = true) ∨ ((BY N k gb u (BS k w st st.length S) a).fr < (BY N k gb u (BS k w st st.length S) b).fr ∧ Z.back ((BY N k gb u (BS k w st st.length S) b).fr - 1) = false)
  rcases h with ⟨h1, h2, h3⟩ | ⟨h1, h2⟩ | ⟨h1, h2, h3⟩ | ⟨h1, h2, h3⟩
  ·rw [hfr a h1, hfr b h2]; exact h3
  ·rw [hfr2 a h1, hfr2 b h2]; exact .inl rfl
  ·rw [hfr a h1, hfr2 b h2]
   exact .inr (.inr ⟨by have := hle a h1; omega, by rw [Nat.add_sub_cancel]; exact h3⟩)
  ·rw [hfr2 a h1, hfr b h2]
   exact .inr (.inl ⟨by have := hle b h2; omega, by rw [Nat.add_sub_cancel]; exact h3⟩)
theorem Fw.done {Z : Zg} (Fp : Lin.Fld Z.p) (hp : 2 ≤ Z.p) {S0 : Nat → SM} {al en de : List Nat} {F : Nat → Nat → Int} (M : Mch Z k N S0 al en) (W : Fw Z k N S0 S al st de al.length w) (hbk : Z.back k = false)
  (R : Red Z.p (Z.d (k + 1)) (st.length + Z.d (k + 1)) (jn st.length (fun i j => w j i) Dl) F pv (st.length + Z.d (k + 1))) :
  Mch Z (k + 1) (N + (from_ st.length pv).length) (BY N k gb (fun t i => jn st.length (fun i j => w j i) Dl i ((from_ st.length pv).getD t 0)) (BS k w st st.length S)) (st ++ List.range' N (from_ st.length pv).length) (en ++ de) := by
 have hsub : st.Sublist al := by have := W.sub; rwa [List.take_length] at this
 have hperm : (st ++ de).Perm al := by have := W.perm; rwa [List.take_length] at this
 have hnd : st.Nodup := M.nodup.sublist hsub
 have hfront := GC R.sorted (fun l hl => Jx hp R W.ind hl)
 obtain ⟨hn, hfd⟩ := Ol R.sorted hfront
 have hlen := KT Fp hp R
 have hfl : (from_ st.length pv).length = pv.length - st.length := by rw [hfd, List.length_drop]
 have hLl : (st ++ List.range' N (from_ st.length pv).length).length = pv.length := by
  rw [List.length_append, List.length_range', hfl]; omega
 refine K4 M W.val W.same W.bd hsub hperm _ (List.Perm.refl _) ?_ (hLl.trans hlen) (fun _ l hl ht i hi => ?_) (fun h => by rw [hbk] at h; cases h) (fun t ht i hi => ?_) (fun b hb i hi => ?_) ?_
 ·rw [hLl]
  refine (Lc R).congr (fun _ _ => rfl) fun t ht _ i hi => Cg.of_eq ?_
  rcases Nat.lt_or_ge t st.length with h | h
  ·have e1 : (st ++ List.range' N (from_ st.length pv).length).getD t 0 = st.getD t 0 := by simp [List.getD, List.getElem?_append_left h]
   rw [e1]
   unfold Gu
   rw [if_pos (M.lt (hsub.subset (BF h))), E5 hnd h]
   obtain ⟨h2, h3⟩ := hfront t h
   rw [Cn h2, h3]
   exact (Sl (fun i j => w j i) Dl i h).symm
  ·have e1 : (st ++ List.range' N (from_ st.length pv).length).getD t 0 = N + (t - st.length) := by
    have h4 : t - st.length < (from_ st.length pv).length := by omega
    simp [List.getD, List.getElem?_append_right h, h4]
   rw [e1]
   unfold Gu
   rw [if_neg (by omega), show N + (t - st.length) - N = t - st.length by omega, hfd]
   have e2 : (pv.drop st.length).getD (t - st.length) 0 = pv.getD t 0 := by simp [List.getD, List.getElem?_drop, show st.length + (t - st.length) = t by omega]
   show jn st.length (fun i j => w j i) Dl i ((pv.drop st.length).getD (t - st.length) 0) = _
   rw [e2]
 ·by_cases hm : l ∈ st
  ·rw [if_pos hm]
   have h1 := W.im (st.idxOf l) (List.idxOf_lt_length_iff.2 hm) i hi
   have h2 : st.getD (st.idxOf l) 0 = l := by
    have := List.getElem_idxOf (List.idxOf_lt_length_iff.2 hm)
    simp [List.getD, List.idxOf_lt_length_iff.2 hm]
   rw [h2] at h1
   rw [h1]
   exact (Cg.mod _ _).symm
  ·rw [if_neg hm]
   have h1 : l ∈ al := M.in_ hl (by rw [← (W.same l).2.2]; exact ht)
   rcases List.mem_append.1 (hperm.mem_iff.2 h1) with h2 | h2
   ·exact absurd h2 hm
   ·exact W.dead l h2 i hi
 ·rw [W.im t ht i hi]
  exact ⟨Int.emod_nonneg _ (by omega), Int.emod_lt_of_pos _ (by omega)⟩
 ·have h1 : (from_ st.length pv).getD b 0 ∈ from_ st.length pv := by simp [List.getD, hb]
  have h2 : st.length ≤ (from_ st.length pv).getD b 0 := by
   have := (List.mem_filter.1 h1).2
   simpa using this
  unfold jn
  rw [if_neg (by omega)]
  unfold Dl
  split <;> omega
 ·refine List.pairwise_append.2 ⟨?_, ?_, fun a ha b hb => ?_⟩
  ·refine (M.ord.sublist hsub).imp_of_mem fun {a b} ha hb h => .inl ⟨M.lt (hsub.subset ha), M.lt (hsub.subset hb), h⟩
  ·refine List.Pairwise.imp_of_mem (R := fun _ _ => True) (fun {a b} ha hb _ => .inr (.inl ⟨(List.mem_range'_1.1 ha).1, (List.mem_range'_1.1 hb).1⟩)) ?_
   exact List.pairwise_of_forall fun _ _ => trivial
  ·exact .inr (.inr (.inl ⟨M.lt (hsub.subset ha), (List.mem_range'_1.1 hb).1, hbk⟩))
end Go.Proofs.YtdnelknieikbaaaGreat
set_option maxHeartbeats 4000000
namespace Go.Proofs.YtdnelknieikbaaaGreat
open Tryz
open Go.Eng Go.RowKit Go.Lin
variable {S : Nat → SM} {h : Hp} {L : List Nat} {v : Value} {d n i : Nat} {w : Nat → Nat → Int} {es : List Value}
def A1 (S : Nat → SM) (l : Nat) : Value := .pointer (some ⟨(S l).g, 0, none⟩)
theorem U6 (hi : i < L.length) : (L.map (A1 S))[i]'(by simpa using hi) = A1 S (L.getD i 0) := by simp [List.getD, hi]
theorem Em {ms : List Hp} (R : RdL cV 1 h ms v (L.map (A1 S))) (hi : i < L.length) : Cell h ms ((Bl v).add (i * 1)) (A1 S (L.getD i 0)) := by
 have := R.cell0 (j := i) (by simpa using hi) (u := (L.map (A1 S))[i]'(by simpa using hi)) rfl
 rwa [U6 hi] at this
theorem E8 : (L.map (A1 S)).length = L.length := by simp
theorem DC {ms : List Hp} (R : RdL cV 1 h ms v (L.map (A1 S))) : Rd h ms v 1 L.length ((L.map (A1 S)).flatMap cV) := by
 have := R.rd
 rwa [E8] at this
def ImV (h : Hp) (d n : Nat) (es : List Value) (w : Nat → Nat → Int) : Prop := es.length = n ∧ ∀ t (ht : t < es.length), RdL cI 1 h [] es[t] (vec d (w t))
theorem ImV.up {h' : Hp} (I : ImV h d n es w) (hl : h.le h') : ImV h' d n es w := ⟨I.1, fun t ht => (I.2 t ht).up hl⟩
theorem ImV.rd (I : ImV h d n es w) (R : RdL cV 1 h [] v es) : RdV h v n d w := ⟨es, I.1, R, I.2⟩
def Fq (n : Nat) (w : Nat → Nat → Int) (u : Nat → Int) (t : Nat) : Nat → Int := if t = n then u else w t
theorem ImV.snoc {u : Nat → Int} {x : Value} (I : ImV h d n es w) (R : RdL cI 1 h [] x (vec d u)) : ImV h d (n + 1) (es ++ [x]) (Fq n w u) := by
 obtain ⟨h1, h2⟩ := I
 refine ⟨by rw [List.length_append, h1]; rfl, fun t ht => ?_⟩
 rw [List.length_append, List.length_singleton] at ht
 unfold Fq
 rw [List.getElem_append]
 split
 ·rename_i h3
  rw [if_neg (by omega)]; exact h2 t h3
 ·rename_i h3
  rw [if_pos (by omega)]
  simpa using R
theorem B7 (p : Int) (r c : Nat) (f g : Nat → Nat → Int) (ev eu : Value) (h : Hp) (R : RtM p r c f) (S : RtM p r 1 g) (hR : RdL cI 1 h [] ev (mat r c f)) (hS : RdL cI 1 h [] eu (mat r 1 g)) :
  FnT Tryz.prog 115 #[.agg #[.int .i64 p, .int .i64 r, .int .i64 c, ev], .agg #[.int .i64 p, .int .i64 r, .int .i64 1, eu]] h [] (fun x h' ms' => h.le h' ∧ ∃ (F : Nat → Nat → Int) (pv : List Nat) (M : FM) (b : Bool) (xe : Value) (mx : Hp), Ho p r (c + 1) (jn c f g) F pv ∧ x = .tuple #[.agg #[.int .i64 M.p, .int .i64 M.rows, .int .i64 M.cols, xe], .bool b] ∧ ms' = [mx] ∧ OwnL cI 1 3 mx xe M.e ∧ (((∀ j (hj : j < pv.length), pv[j] < c) ∧ b = true ∧ M = EM p c 1 (CB pv F c)) ∨ (¬ (∀ j (hj : j < pv.length), pv[j] < c) ∧ b = false))) := by
 refine (L8 p r c 1 f g ev eu h R S (.inr (by omega)) hR hS).mono ?_
 rintro x h' ms' ⟨hl, F, pv, v, hE, h1, h2⟩
 by_cases hc : ∀ j (hj : j < pv.length), pv[j] < c
 ·obtain ⟨rfl, xe, mx, rfl, rfl, hO⟩ := h1 hc
  exact ⟨hl, F, pv, _, true, xe, mx, hE, rfl, rfl, hO, .inl ⟨hc, rfl, rfl⟩⟩
 ·obtain ⟨rfl, xe, mx, rfl, rfl, hO⟩ := h2 hc
  exact ⟨hl, F, pv, _, false, xe, mx, hE, rfl, rfl, hO, .inr ⟨hc, rfl⟩⟩
theorem PG {g : Nat} {u : Nat → Int} (hG : Seg h [] ⟨g, 0, none⟩ [v]) (hR : RdL cI 1 h [] v (vec d u)) : RdV h (.slice (some ⟨g, 0, none⟩) 1 1) 1 d (fun _ => u) :=
 ⟨[v], rfl, RdL.one1 hG, fun j hj => by
  obtain rfl : j = 0 := by simpa using hj
  exact hR⟩
theorem NJ {k : Nat} {st : List Nat} (l : Nat) : (BS k w st i S l).g = (S l).g ∧ (BS k w st i S l).fr = (S l).fr := by
 unfold BS; split <;> exact ⟨rfl, rfl⟩
def Ja (gb : Nat → Nat) (n g : Nat) (l : Nat) : Nat := if l = n then g else gb l
theorem Ew {N k g : Nat} {gb : Nat → Nat} {u : Nat → Nat → Int} {l : Nat} (h : l ≠ n) : BY N k (Ja gb n g) u S l = BY N k gb u S l := by
 unfold BY Ja
 split
 ·rfl
 ·rfl
theorem Bx {a b : Nat} (h : (a : Int) < b) : a < b := by omega
theorem Mt (Z : Zg) (k N : Nat) (S0 : Nat → SM) (al en : List Nat) (gm : Nat) (va ve ev : Value) (me mB h : Hp) (hp : IsP Z.p) (hd : ∀ j, Z.d j ≤ 200) (hk : k ≤ 200) (hN : N ≤ 100000) (M : Mch Z k N S0 al en) (hb : Z.back k = false) (RA : RtM Z.p (Z.d (k + 1)) (Z.d k) (Z.mat k)) (hA : RdL cI 1 h [] ev (mat (Z.d (k + 1)) (Z.d k) (Z.mat k)))
  (ha : RdL cV 1 h [] va (al.map (A1 S0))) (hE : OwnL cV 1 108 me ve (en.map (A1 S0))) (B : BagS Z.d N S0 mB) :
  FnT Tryz.prog 91 #[.pointer (some ⟨gm, 0, none⟩), .agg #[.int .i64 Z.p, .int .i64 (Z.d (k + 1)), .int .i64 (Z.d k), ev]] h [mB, AX gm 132 [.int .i64 Z.p, .int .i64 k, va, ve], me] (fun r h' ms' => h.le h' ∧ ∃ (nb : Nat) (S' : Nat → SM) (al' en' : List Nat) (va' ve' : Value) (me' mB' : Hp), ms' = [mB', AX gm 132 [.int .i64 Z.p, .int .i64 ((k : Int) + 1), va', ve'], me'] ∧ nb ≤ 200 ∧ RdL cV 1 h' [] va' (al'.map (A1 S')) ∧ OwnL cV 1 108 me' ve' (en'.map (A1 S')) ∧ BagS Z.d (N + nb) S' mB' ∧ Mch Z (k + 1) (N + nb) S' al' en') := by
 have hbp := RA.bd
 have hFp := hp.fld
 have d1 := hd (k + 1)
 have d0 := hd k
 have hal := M.cnt_al
 have oev := hA.rd.one
 have oa := ha.rd.one
 have hla : (al.map (A1 S0)).length = al.length := E8
 refine Av func91 ntmps91 rfl rfl (fun w0 hw0 => ?_)
 simp only [A4]
 refine Ax ?_
 refine AS [_, _, _, _] rfl rfl (by rfl) rfl rfl rfl (fun g3 => ?_)
 refine Aq (By 0 rfl fun h1 l1 hG => ?_)
 have hA := hA.up l1
 have ha := ha.up l1
 have hGA := Seg.all hG
 refine BX (BX (Ea (ms' := [mB, AX gm 132 [.int .i64 Z.p, .int .i64 k, va, ve], me, Hp.emp, Hp.emp]) (List.perm_append_comm (l₁ := [_, _]) (l₂ := [_, _, _])) (Ax (Qm rfl (B3 (Qm rfl (Aq ?_)))))))
 refine Bv (fun s hh ms' => ∃ (S : Nat → SM) (st de : List Nat) (w : Nat → Nat → Int) (es : List Value) (vst vim ve' : Value) (mB me' mst mim : Hp), s = [(0, .pointer (some ⟨gm, 0, none⟩)), (3, .pointer (some ⟨g3, 0, none⟩)), (4, vst), (5, vim)] ∧ h1.le hh ∧ ms' = [mB, AX gm 132 [.int .i64 Z.p, .int .i64 k, va, ve'], me', mst, mim] ∧ Fw Z k N S0 S al st de al.length w ∧ OwnL cV 1 108 mst vst (st.map (A1 S0)) ∧ OwnL cV 1 24 mim vim es ∧ ImV hh (Z.d (k + 1)) st.length es w ∧ OwnL cV 1 108 me' ve' ((en ++ de).map (A1 S0)) ∧ BagS Z.d N S mB) ?_ (fun s h ms hI => ?_)
 ·refine Ac (Ad (Qm rfl (Qm rfl (Qf DL rfl (Ql rfl underlying106 (Cell.blk 1 (k := 2) rfl rfl) (Qx (AJ (DC ha).any rfl underlying106 rfl) rfl (Qm rfl (Aq (Ag ?_)))))))))
  refine AD (fun q s hh ms' => ∃ (i : Nat) (S : Nat → SM) (st de : List Nat) (w : Nat → Nat → Int) (es : List Value) (vst vim ve' : Value) (mB me' mst mim : Hp), q = al.length - i ∧ s = [(0, .pointer (some ⟨gm, 0, none⟩)), (3, .pointer (some ⟨g3, 0, none⟩)), (4, vst), (5, vim), (20, va), (21, .int .i64 al.length), (22, .int .i64 i)] ∧ h1.le hh ∧ ms' = [mB, AX gm 132 [.int .i64 Z.p, .int .i64 k, va, ve'], me', mst, mim] ∧ i ≤ al.length ∧ Fw Z k N S0 S al st de i w ∧ OwnL cV 1 108 mst vst (st.map (A1 S0)) ∧ OwnL cV 1 24 mim vim es ∧ ImV hh (Z.d (k + 1)) st.length es w ∧ OwnL cV 1 108 me' ve' ((en ++ de).map (A1 S0)) ∧ BagS Z.d N S mB)
   (al.length - 0) _ ⟨0, S0, [], [], fun _ _ => 0, [], _, _, ve, mB, me, _, _, rfl, rfl, Hp.le_refl _, rfl, by omega, Fw.start M _, OwnL.nil BK, OwnL.nil BK, ⟨rfl, fun t ht => by simp at ht⟩, by rw [List.append_nil]; exact hE, B⟩ Qs ?_
  rintro q s hh ms' ⟨i, S, st, de, w, es, vst, vim, ve', mB, me', mst, mim, rfl, rfl, hlh, rfl, hi, W, hst, him, hIm, hen, B⟩
  have hA := hA.up hlh
  have ha := ha.up hlh
  have hG := hG.le hlh
  have hGA := Seg.all hG
  have hstl : st.length ≤ i := by
   have := W.sub.length_le
   rw [List.length_take] at this
   omega
  refine Ax (Qm rfl (Aq (Ac ?_)))
  refine AF rfl (fun hlt => ?_) (fun hlt => ?_)
  ·have hil : i < al.length := Bx hlt
   have hIm00 := hIm
   have hcs : ∀ ms, Cell hh ms ((Bl va).add (i * 1)) (A1 S0 (al.getD i 0)) := fun ms => Em ha.any hil
   have hsN : al.getD i 0 < N := M.lt (BF hil)
   have hsk : (S (al.getD i 0)).to = k := by rw [(W.same _).2.2]; exact M.live _ (BF hil)
   refine Ai (Ab (Ac (Ag (Ax (Qx (Ah _ (DC ha).any rfl underlying106 Cf rfl rfl rfl (by omega)) rfl (Ql rfl underlying108 (hcs _) (Qm rfl (Aq (CV fun h2 l2 lB dB LB => (CV fun h3 l3 lM dM LM => ?_))))))))))
   have hgs : A1 S0 (al.getD i 0) = .pointer (some ⟨(S (al.getD i 0)).g, 0, none⟩) := by unfold A1; rw [(W.same _).1]
   rw [hgs]
   have l03 := Hp.le_trans l2 l3
   have hA3 := hA.up l03
   obtain ⟨u, hu, hRu⟩ := SO Z.d _ _ _ _ h3 (B.rd (Hp.le_trans lB l3) hsN) (by omega)
   rw [hsk] at hRu
   have hG3 := hG.le l03
   have hGA3 := Seg.all hG3
   refine Ac (AW (n := 5) (bs := [true, true, true, false, false]) [true, true, true] Cd (by kernel_rfl) (by kernel_rfl) rfl rfl (Qp rfl (oG rfl underlying42 AI (Seg.any hG3)) (Qq rfl (Qp rfl (AG rfl call107 rfl (hu _)) ?_))))
   unfold CD
   simp only [List.cons_append, List.nil_append]
   refine Qo 3 rfl ?_
   refine Qc call67 rfl (IG Z.p (Z.d (k + 1)) (Z.d k) (Z.mat k) ((S (al.getD i 0)).v k) ev u h3 RA (fun j hj => W.bd _ hsN k (by have := B.fr_to hsN; omega) (by omega) j hj) hA3 hRu) (fun v h4 ms4 l4 hF => ?_)
   obtain ⟨l4', mv, rfl, hOv⟩ := hF
   refine Qa (Qo 4 rfl (Qm rfl (Qa (Qe ?_))))
   have wr : RtM Z.p (Z.d (k + 1)) st.length (fun a t => w t a) := ⟨hp, by omega, by omega, fun a ha t ht => by
    show 0 ≤ w t a ∧ w t a < Z.p
    rw [W.im t ht a ha]
    exact ⟨Int.emod_nonneg _ (by omega), Int.emod_lt_of_pos _ (by omega)⟩⟩
   have vr : RtM Z.p (Z.d (k + 1)) 1 (fun a _ => D2 Z.p (Z.d k) (Z.mat k) ((S (al.getD i 0)).v k) a) := ⟨hp, by omega, by omega, fun a ha t ht => by
    show 0 ≤ D2 _ _ _ _ a ∧ D2 _ _ _ _ a < _
    unfold D2
    exact ⟨Int.emod_nonneg _ (by omega), Int.emod_lt_of_pos _ (by omega)⟩⟩
   refine Ab (CV fun h5 l5 lv dv Lv => (Ea (ms' := [mim, me', mst]) (K5 _ _ _) (CV fun h6 l6 lim dim Lim => ?_)))
   have l06 := Hp.le_trans l03 (Hp.le_trans l4 (Hp.le_trans l5 l6))
   have hG6 := hG.le l06
   have hGA6 := Seg.all hG6
   have hMA := Seg.all (Seg.ofLe (Hp.le_trans lM (Hp.le_trans l4 (Hp.le_trans l5 l6))))
   have hRv : RdL cI 1 h6 [] v (vec (Z.d (k + 1)) (D2 Z.p (Z.d k) (Z.mat k) ((S (al.getD i 0)).v k))) := hOv.rdh (Hp.le_trans lv l6)
   have ov := hRv.rd.one
   have hRim : RdV h6 vim st.length (Z.d (k + 1)) w := (hIm.up l06).rd (him.rdh lim)
   refine Bv (fun s hh2 ms' => ∃ (F : Nat → Nat → Int) (pv : List Nat) (Mx : FM) (b : Bool) (g9 : Nat) (xe : Value) (mx : Hp), s = [(0, .pointer (some ⟨gm, 0, none⟩)), (3, .pointer (some ⟨g3, 0, none⟩)), (4, vst), (5, vim), (7, .pointer (some ⟨(S (al.getD i 0)).g, 0, none⟩)), (8, v), (9, .pointer (some ⟨g9, 0, none⟩)), (10, .bool b), (20, va), (21, .int .i64 al.length), (22, .int .i64 i)] ∧ h6.le hh2 ∧ ms' = [AX g9 42 [.int .i64 Mx.p, .int .i64 Mx.rows, .int .i64 Mx.cols, xe], mx, me', mst] ∧ Ho Z.p (Z.d (k + 1)) (st.length + 1) (jn st.length (fun a t => w t a) (fun a _ => D2 Z.p (Z.d k) (Z.mat k) ((S (al.getD i 0)).v k) a)) F pv ∧ OwnL cI 1 3 mx xe Mx.e ∧ (((∀ j (hj : j < pv.length), pv[j] < st.length) ∧ b = true ∧ Mx = EM Z.p st.length 1 (CB pv F st.length)) ∨ (¬ (∀ j (hj : j < pv.length), pv[j] < st.length) ∧ b = false))) ?_ (fun s h ms hI => ?_)
   ·refine AW (n := 24) (bs := [true, true, true, true, true, true, true, false, true, true, true, true, true, true, true, false, false, false, false, false, false, false, false, false]) [true, true, true, true, true, true, true, false, true, true, true, true, true, true, true] Cd (by kernel_rfl) (by kernel_rfl) rfl rfl (Qq rfl (Qq rfl (QF EY rfl (QL rfl underlying3 (hMA 0 _ rfl _) (QF Bh rfl (QL rfl underlying3 (hGA6 1 _ rfl _) (Qq rfl (Qq rfl (Qq rfl (QF EY rfl (QL rfl underlying3 (hMA 0 _ rfl _) (QF Bh rfl (QL rfl underlying3 (hGA6 1 _ rfl _) (Qq rfl ?_))))))))))))))
    unfold CD
    simp only [List.cons_append, List.nil_append]
    refine A2 [7, 15, 21] (by kernel_rfl) rfl ?_
    refine Az rfl ?_ ?_
    ·refine Qc call97 rfl (Bi Z.p (Z.d (k + 1)) st.length w vim _ wr.i64 wr.rl wr.cl (hRim.up (Hp.le_refl _))) (fun x7 h7 ms7 l7 hF => ?_)
     obtain ⟨rfl, ec, mc, rfl, rfl, hOc⟩ := hF
     refine AH hOc fun h7 l7 hRc => ?_
     have lcur := l7
     refine Qa (A2 [15, 21] (by kernel_rfl) rfl ?_)
     refine Az rfl ?_ ?_
     ·refine AB [_] rfl underlying62 BN rfl (hRv.rd.cells) rfl rfl (by omega) rfl rfl rfl (fun g46 => BD fun h8 l8 hSg => ?_)
      have hRc := hRc.up l8
      have lcur := Hp.le_trans lcur l8
      refine Qa (A2 [16, 21] (by kernel_rfl) rfl ?_)
      refine Az rfl ?_ ?_
      ·refine Qc call97 rfl (Bi Z.p (Z.d (k + 1)) 1 (fun _ => D2 Z.p (Z.d k) (Z.mat k) ((S (al.getD i 0)).v k)) _ _ wr.i64 wr.rl (by omega) (PG hSg (hRv.up lcur))) (fun x9 h9 ms9 l9 hF => ?_)
       obtain ⟨rfl, ed, md, rfl, rfl, hOd⟩ := hF
       refine AH hOd fun h10 l10 hRd => ?_
       have lcur := Hp.le_trans lcur l10
       refine Qa (A2 [17, 21] (by kernel_rfl) rfl ?_)
       refine Az rfl ?_ ?_
       ·refine Qc call115 rfl (B7 Z.p (Z.d (k + 1)) st.length (fun a t => w t a) (fun a _ => D2 Z.p (Z.d k) (Z.mat k) ((S (al.getD i 0)).v k) a) ec ed h10 wr vr (hRc.up l10) hRd) (fun x11 h11 ms11 l11 hF => ?_)
        obtain ⟨l11, F, pv, Mx, b, xe, mx, hE, rfl, rfl, hOx, hcase⟩ := hF
        have lcur := Hp.le_trans lcur l11
        have ox : xe.oneCell' = true := (hOx.rd (h := h) (ms := [mx]) (List.Mem.head _)).rd.one
        refine Qa (An 18 30 (by kernel_rfl) rfl (by assumption) rfl (As rfl rfl) (An 19 49 (by kernel_rfl) rfl (by assumption) rfl (AC rfl rfl rfl) (An 20 50 (by kernel_rfl) rfl (by assumption) rfl (AC rfl rfl rfl) (Qo 21 rfl (BZ [.int .i64 0, .int .i64 0, .int .i64 0, .slice none 0 0] rfl AI rfl rfl (fun g9 => Qa (Qo 22 rfl ?_)))))))
        refine Sa 0 [_, _, _, _] AI rfl (by simp [ox]) ?_
        refine Qa (Qo 23 rfl (Qm rfl (Qa (Qe ?_))))
        exact AA _ ⟨F, pv, Mx, b, g9, xe, mx, rfl, lcur, rfl, hE, hOx, hcase⟩ Qs
       refine Az rfl ?_ ?_
       ·refine BZ [.int .i64 0, .int .i64 0, .int .i64 0, .slice none 0 0] rfl AI rfl rfl (fun g9 => Qa (Qo 17 rfl (Qc call115 rfl (B7 Z.p (Z.d (k + 1)) st.length (fun a t => w t a) (fun a _ => D2 Z.p (Z.d k) (Z.mat k) ((S (al.getD i 0)).v k) a) ec ed h10 wr vr (hRc.up l10) hRd) (fun x11 h11 ms11 l11 hF => ?_))))
        obtain ⟨l11, F, pv, Mx, b, xe, mx, hE, rfl, rfl, hOx, hcase⟩ := hF
        have lcur := Hp.le_trans lcur l11
        have ox : xe.oneCell' = true := (hOx.rd (h := h) (ms := [mx]) (List.Mem.head _)).rd.one
        refine Qa (An 18 30 (by kernel_rfl) rfl (by assumption) rfl (As rfl rfl) (An 19 49 (by kernel_rfl) rfl (by assumption) rfl (AC rfl rfl rfl) (An 20 50 (by kernel_rfl) rfl (by assumption) rfl (AC rfl rfl rfl) (Qo 22 rfl ?_))))
        refine Sa 1 [_, _, _, _] AI rfl (by simp [ox]) ?_
        refine Qa (Qo 23 rfl (Qm rfl (Qa (Qe ?_))))
        exact A9 (AA _ ⟨F, pv, Mx, b, g9, xe, mx, rfl, lcur, rfl, hE, hOx, hcase⟩ Qs)
       exact A3
      refine Az rfl ?_ ?_
      ·refine BZ [.int .i64 0, .int .i64 0, .int .i64 0, .slice none 0 0] rfl AI rfl rfl (fun g9 => Qa (Qo 16 rfl (Qc call97 rfl (Bi Z.p (Z.d (k + 1)) 1 (fun _ => D2 Z.p (Z.d k) (Z.mat k) ((S (al.getD i 0)).v k)) _ _ wr.i64 wr.rl (by omega) (PG hSg (hRv.up lcur))) (fun x9 h9 ms9 l9 hF => ?_))))
       obtain ⟨rfl, ed, md, rfl, rfl, hOd⟩ := hF
       refine AH hOd fun h10 l10 hRd => ?_
       have lcur := Hp.le_trans lcur l10
       refine Qa (Qo 17 rfl (Qc call115 rfl (B7 Z.p (Z.d (k + 1)) st.length (fun a t => w t a) (fun a _ => D2 Z.p (Z.d k) (Z.mat k) ((S (al.getD i 0)).v k) a) ec ed h10 wr vr (hRc.up l10) hRd) (fun x11 h11 ms11 l11 hF => ?_)))
       obtain ⟨l11, F, pv, Mx, b, xe, mx, hE, rfl, rfl, hOx, hcase⟩ := hF
       have lcur := Hp.le_trans lcur l11
       have ox : xe.oneCell' = true := (hOx.rd (h := h) (ms := [mx]) (List.Mem.head _)).rd.one
       refine Qa (An 18 30 (by kernel_rfl) rfl (by assumption) rfl (As rfl rfl) (An 19 49 (by kernel_rfl) rfl (by assumption) rfl (AC rfl rfl rfl) (An 20 50 (by kernel_rfl) rfl (by assumption) rfl (AC rfl rfl rfl) (Qo 22 rfl ?_))))
       refine Sa 1 [_, _, _, _] AI rfl (by simp [ox]) ?_
       refine Qa (Qo 23 rfl (Qm rfl (Qa (Qe ?_))))
       exact A9 (AA _ ⟨F, pv, Mx, b, g9, xe, mx, rfl, lcur, rfl, hE, hOx, hcase⟩ Qs)
      exact A3
     refine Az rfl ?_ ?_
     ·refine BZ [.int .i64 0, .int .i64 0, .int .i64 0, .slice none 0 0] rfl AI rfl rfl (fun g9 => Qa (Qo 15 rfl (AB [_] rfl underlying62 BN rfl (hRv.rd.cells) rfl rfl (by omega) rfl rfl rfl (fun g46 => BD fun h8 l8 hSg => ?_))))
      have hRc := hRc.up l8
      have lcur := Hp.le_trans lcur l8
      refine Qa (Qo 16 rfl (Qc call97 rfl (Bi Z.p (Z.d (k + 1)) 1 (fun _ => D2 Z.p (Z.d k) (Z.mat k) ((S (al.getD i 0)).v k)) _ _ wr.i64 wr.rl (by omega) (PG hSg (hRv.up lcur))) (fun x9 h9 ms9 l9 hF => ?_)))
      obtain ⟨rfl, ed, md, rfl, rfl, hOd⟩ := hF
      refine AH hOd fun h10 l10 hRd => ?_
      have lcur := Hp.le_trans lcur l10
      refine Qa (Qo 17 rfl (Qc call115 rfl (B7 Z.p (Z.d (k + 1)) st.length (fun a t => w t a) (fun a _ => D2 Z.p (Z.d k) (Z.mat k) ((S (al.getD i 0)).v k) a) ec ed h10 wr vr (hRc.up l10) hRd) (fun x11 h11 ms11 l11 hF => ?_)))
      obtain ⟨l11, F, pv, Mx, b, xe, mx, hE, rfl, rfl, hOx, hcase⟩ := hF
      have lcur := Hp.le_trans lcur l11
      have ox : xe.oneCell' = true := (hOx.rd (h := h) (ms := [mx]) (List.Mem.head _)).rd.one
      refine Qa (An 18 30 (by kernel_rfl) rfl (by assumption) rfl (As rfl rfl) (An 19 49 (by kernel_rfl) rfl (by assumption) rfl (AC rfl rfl rfl) (An 20 50 (by kernel_rfl) rfl (by assumption) rfl (AC rfl rfl rfl) (Qo 22 rfl ?_))))
      refine Sa 1 [_, _, _, _] AI rfl (by simp [ox]) ?_
      refine Qa (Qo 23 rfl (Qm rfl (Qa (Qe ?_))))
      exact A9 (AA _ ⟨F, pv, Mx, b, g9, xe, mx, rfl, lcur, rfl, hE, hOx, hcase⟩ Qs)
     exact A3
    refine Az rfl ?_ ?_
    ·refine AB [_] rfl underlying62 BN rfl (hRv.rd.cells) rfl rfl (by omega) rfl rfl rfl (fun g46 => BD fun h8 l8 hSg => ?_)
     have lcur := l8
     refine Qa (A2 [7, 21] (by kernel_rfl) rfl ?_)
     refine Az rfl ?_ ?_
     ·refine Qc call97 rfl (Bi Z.p (Z.d (k + 1)) st.length w vim _ wr.i64 wr.rl wr.cl (hRim.up (by assumption))) (fun x7 h7 ms7 l7 hF => ?_)
      obtain ⟨rfl, ec, mc, rfl, rfl, hOc⟩ := hF
      refine AH hOc fun h7 l7 hRc => ?_
      have hSg := hSg.le l7
      have lcur := Hp.le_trans lcur l7
      refine Qa (A2 [16, 21] (by kernel_rfl) rfl ?_)
      refine Az rfl ?_ ?_
      ·refine Qc call97 rfl (Bi Z.p (Z.d (k + 1)) 1 (fun _ => D2 Z.p (Z.d k) (Z.mat k) ((S (al.getD i 0)).v k)) _ _ wr.i64 wr.rl (by omega) (PG hSg (hRv.up lcur))) (fun x9 h9 ms9 l9 hF => ?_)
       obtain ⟨rfl, ed, md, rfl, rfl, hOd⟩ := hF
       refine AH hOd fun h10 l10 hRd => ?_
       have lcur := Hp.le_trans lcur l10
       refine Qa (A2 [17, 21] (by kernel_rfl) rfl ?_)
       refine Az rfl ?_ ?_
       ·refine Qc call115 rfl (B7 Z.p (Z.d (k + 1)) st.length (fun a t => w t a) (fun a _ => D2 Z.p (Z.d k) (Z.mat k) ((S (al.getD i 0)).v k) a) ec ed h10 wr vr (hRc.up l10) hRd) (fun x11 h11 ms11 l11 hF => ?_)
        obtain ⟨l11, F, pv, Mx, b, xe, mx, hE, rfl, rfl, hOx, hcase⟩ := hF
        have lcur := Hp.le_trans lcur l11
        have ox : xe.oneCell' = true := (hOx.rd (h := h) (ms := [mx]) (List.Mem.head _)).rd.one
        refine Qa (An 18 30 (by kernel_rfl) rfl (by assumption) rfl (As rfl rfl) (An 19 49 (by kernel_rfl) rfl (by assumption) rfl (AC rfl rfl rfl) (An 20 50 (by kernel_rfl) rfl (by assumption) rfl (AC rfl rfl rfl) (Qo 21 rfl (BZ [.int .i64 0, .int .i64 0, .int .i64 0, .slice none 0 0] rfl AI rfl rfl (fun g9 => Qa (Qo 22 rfl ?_)))))))
        refine Sa 0 [_, _, _, _] AI rfl (by simp [ox]) ?_
        refine Qa (Qo 23 rfl (Qm rfl (Qa (Qe ?_))))
        exact AA _ ⟨F, pv, Mx, b, g9, xe, mx, rfl, lcur, rfl, hE, hOx, hcase⟩ Qs
       refine Az rfl ?_ ?_
       ·refine BZ [.int .i64 0, .int .i64 0, .int .i64 0, .slice none 0 0] rfl AI rfl rfl (fun g9 => Qa (Qo 17 rfl (Qc call115 rfl (B7 Z.p (Z.d (k + 1)) st.length (fun a t => w t a) (fun a _ => D2 Z.p (Z.d k) (Z.mat k) ((S (al.getD i 0)).v k) a) ec ed h10 wr vr (hRc.up l10) hRd) (fun x11 h11 ms11 l11 hF => ?_))))
        obtain ⟨l11, F, pv, Mx, b, xe, mx, hE, rfl, rfl, hOx, hcase⟩ := hF
        have lcur := Hp.le_trans lcur l11
        have ox : xe.oneCell' = true := (hOx.rd (h := h) (ms := [mx]) (List.Mem.head _)).rd.one
        refine Qa (An 18 30 (by kernel_rfl) rfl (by assumption) rfl (As rfl rfl) (An 19 49 (by kernel_rfl) rfl (by assumption) rfl (AC rfl rfl rfl) (An 20 50 (by kernel_rfl) rfl (by assumption) rfl (AC rfl rfl rfl) (Qo 22 rfl ?_))))
        refine Sa 1 [_, _, _, _] AI rfl (by simp [ox]) ?_
        refine Qa (Qo 23 rfl (Qm rfl (Qa (Qe ?_))))
        exact A9 (AA _ ⟨F, pv, Mx, b, g9, xe, mx, rfl, lcur, rfl, hE, hOx, hcase⟩ Qs)
       exact A3
      refine Az rfl ?_ ?_
      ·refine BZ [.int .i64 0, .int .i64 0, .int .i64 0, .slice none 0 0] rfl AI rfl rfl (fun g9 => Qa (Qo 16 rfl (Qc call97 rfl (Bi Z.p (Z.d (k + 1)) 1 (fun _ => D2 Z.p (Z.d k) (Z.mat k) ((S (al.getD i 0)).v k)) _ _ wr.i64 wr.rl (by omega) (PG hSg (hRv.up lcur))) (fun x9 h9 ms9 l9 hF => ?_))))
       obtain ⟨rfl, ed, md, rfl, rfl, hOd⟩ := hF
       refine AH hOd fun h10 l10 hRd => ?_
       have lcur := Hp.le_trans lcur l10
       refine Qa (Qo 17 rfl (Qc call115 rfl (B7 Z.p (Z.d (k + 1)) st.length (fun a t => w t a) (fun a _ => D2 Z.p (Z.d k) (Z.mat k) ((S (al.getD i 0)).v k) a) ec ed h10 wr vr (hRc.up l10) hRd) (fun x11 h11 ms11 l11 hF => ?_)))
       obtain ⟨l11, F, pv, Mx, b, xe, mx, hE, rfl, rfl, hOx, hcase⟩ := hF
       have lcur := Hp.le_trans lcur l11
       have ox : xe.oneCell' = true := (hOx.rd (h := h) (ms := [mx]) (List.Mem.head _)).rd.one
       refine Qa (An 18 30 (by kernel_rfl) rfl (by assumption) rfl (As rfl rfl) (An 19 49 (by kernel_rfl) rfl (by assumption) rfl (AC rfl rfl rfl) (An 20 50 (by kernel_rfl) rfl (by assumption) rfl (AC rfl rfl rfl) (Qo 22 rfl ?_))))
       refine Sa 1 [_, _, _, _] AI rfl (by simp [ox]) ?_
       refine Qa (Qo 23 rfl (Qm rfl (Qa (Qe ?_))))
       exact A9 (AA _ ⟨F, pv, Mx, b, g9, xe, mx, rfl, lcur, rfl, hE, hOx, hcase⟩ Qs)
      exact A3
     refine Az rfl ?_ ?_
     ·refine BZ [.int .i64 0, .int .i64 0, .int .i64 0, .slice none 0 0] rfl AI rfl rfl (fun g9 => Qa (Qo 7 rfl (Qc call97 rfl (Bi Z.p (Z.d (k + 1)) st.length w vim _ wr.i64 wr.rl wr.cl (hRim.up (by assumption))) (fun x7 h7 ms7 l7 hF => ?_))))
      obtain ⟨rfl, ec, mc, rfl, rfl, hOc⟩ := hF
      refine AH hOc fun h7 l7 hRc => ?_
      have hSg := hSg.le l7
      have lcur := Hp.le_trans lcur l7
      refine Qa (Qo 16 rfl (Qc call97 rfl (Bi Z.p (Z.d (k + 1)) 1 (fun _ => D2 Z.p (Z.d k) (Z.mat k) ((S (al.getD i 0)).v k)) _ _ wr.i64 wr.rl (by omega) (PG hSg (hRv.up lcur))) (fun x9 h9 ms9 l9 hF => ?_)))
      obtain ⟨rfl, ed, md, rfl, rfl, hOd⟩ := hF
      refine AH hOd fun h10 l10 hRd => ?_
      have lcur := Hp.le_trans lcur l10
      refine Qa (Qo 17 rfl (Qc call115 rfl (B7 Z.p (Z.d (k + 1)) st.length (fun a t => w t a) (fun a _ => D2 Z.p (Z.d k) (Z.mat k) ((S (al.getD i 0)).v k) a) ec ed h10 wr vr (hRc.up l10) hRd) (fun x11 h11 ms11 l11 hF => ?_)))
      obtain ⟨l11, F, pv, Mx, b, xe, mx, hE, rfl, rfl, hOx, hcase⟩ := hF
      have lcur := Hp.le_trans lcur l11
      have ox : xe.oneCell' = true := (hOx.rd (h := h) (ms := [mx]) (List.Mem.head _)).rd.one
      refine Qa (An 18 30 (by kernel_rfl) rfl (by assumption) rfl (As rfl rfl) (An 19 49 (by kernel_rfl) rfl (by assumption) rfl (AC rfl rfl rfl) (An 20 50 (by kernel_rfl) rfl (by assumption) rfl (AC rfl rfl rfl) (Qo 22 rfl ?_))))
      refine Sa 1 [_, _, _, _] AI rfl (by simp [ox]) ?_
      refine Qa (Qo 23 rfl (Qm rfl (Qa (Qe ?_))))
      exact A9 (AA _ ⟨F, pv, Mx, b, g9, xe, mx, rfl, lcur, rfl, hE, hOx, hcase⟩ Qs)
     exact A3
    refine Az rfl ?_ ?_
    ·refine BZ [.int .i64 0, .int .i64 0, .int .i64 0, .slice none 0 0] rfl AI rfl rfl (fun g9 => Qw (A2 [7, 15] (by kernel_rfl) rfl ?_))
     refine Az rfl ?_ ?_
     ·refine Qc call97 rfl (Bi Z.p (Z.d (k + 1)) st.length w vim _ wr.i64 wr.rl wr.cl (hRim.up (Hp.le_refl _))) (fun x7 h7 ms7 l7 hF => ?_)
      obtain ⟨rfl, ec, mc, rfl, rfl, hOc⟩ := hF
      refine AH hOc fun h7 l7 hRc => ?_
      have lcur := l7
      refine Qa (Qo 15 rfl (AB [_] rfl underlying62 BN rfl (hRv.rd.cells) rfl rfl (by omega) rfl rfl rfl (fun g46 => BD fun h8 l8 hSg => ?_)))
      have hRc := hRc.up l8
      have lcur := Hp.le_trans lcur l8
      refine Qa (Qo 16 rfl (Qc call97 rfl (Bi Z.p (Z.d (k + 1)) 1 (fun _ => D2 Z.p (Z.d k) (Z.mat k) ((S (al.getD i 0)).v k)) _ _ wr.i64 wr.rl (by omega) (PG hSg (hRv.up lcur))) (fun x9 h9 ms9 l9 hF => ?_)))
      obtain ⟨rfl, ed, md, rfl, rfl, hOd⟩ := hF
      refine AH hOd fun h10 l10 hRd => ?_
      have lcur := Hp.le_trans lcur l10
      refine Qa (Qo 17 rfl (Qc call115 rfl (B7 Z.p (Z.d (k + 1)) st.length (fun a t => w t a) (fun a _ => D2 Z.p (Z.d k) (Z.mat k) ((S (al.getD i 0)).v k) a) ec ed h10 wr vr (hRc.up l10) hRd) (fun x11 h11 ms11 l11 hF => ?_)))
      obtain ⟨l11, F, pv, Mx, b, xe, mx, hE, rfl, rfl, hOx, hcase⟩ := hF
      have lcur := Hp.le_trans lcur l11
      have ox : xe.oneCell' = true := (hOx.rd (h := h) (ms := [mx]) (List.Mem.head _)).rd.one
      refine Qa (An 18 30 (by kernel_rfl) rfl (by assumption) rfl (As rfl rfl) (An 19 49 (by kernel_rfl) rfl (by assumption) rfl (AC rfl rfl rfl) (An 20 50 (by kernel_rfl) rfl (by assumption) rfl (AC rfl rfl rfl) (Qo 22 rfl ?_))))
      refine Sa 1 [_, _, _, _] AI rfl (by simp [ox]) ?_
      refine Qa (Qo 23 rfl (Qm rfl (Qa (Qe ?_))))
      exact A9 (AA _ ⟨F, pv, Mx, b, g9, xe, mx, rfl, lcur, rfl, hE, hOx, hcase⟩ Qs)
     refine Az rfl ?_ ?_
     ·refine AB [_] rfl underlying62 BN rfl (hRv.rd.cells) rfl rfl (by omega) rfl rfl rfl (fun g46 => BD fun h8 l8 hSg => ?_)
      have lcur := l8
      refine Qa (Qo 7 rfl (Qc call97 rfl (Bi Z.p (Z.d (k + 1)) st.length w vim _ wr.i64 wr.rl wr.cl (hRim.up (by assumption))) (fun x7 h7 ms7 l7 hF => ?_)))
      obtain ⟨rfl, ec, mc, rfl, rfl, hOc⟩ := hF
      refine AH hOc fun h7 l7 hRc => ?_
      have hSg := hSg.le l7
      have lcur := Hp.le_trans lcur l7
      refine Qa (Qo 16 rfl (Qc call97 rfl (Bi Z.p (Z.d (k + 1)) 1 (fun _ => D2 Z.p (Z.d k) (Z.mat k) ((S (al.getD i 0)).v k)) _ _ wr.i64 wr.rl (by omega) (PG hSg (hRv.up lcur))) (fun x9 h9 ms9 l9 hF => ?_)))
      obtain ⟨rfl, ed, md, rfl, rfl, hOd⟩ := hF
      refine AH hOd fun h10 l10 hRd => ?_
      have lcur := Hp.le_trans lcur l10
      refine Qa (Qo 17 rfl (Qc call115 rfl (B7 Z.p (Z.d (k + 1)) st.length (fun a t => w t a) (fun a _ => D2 Z.p (Z.d k) (Z.mat k) ((S (al.getD i 0)).v k) a) ec ed h10 wr vr (hRc.up l10) hRd) (fun x11 h11 ms11 l11 hF => ?_)))
      obtain ⟨l11, F, pv, Mx, b, xe, mx, hE, rfl, rfl, hOx, hcase⟩ := hF
      have lcur := Hp.le_trans lcur l11
      have ox : xe.oneCell' = true := (hOx.rd (h := h) (ms := [mx]) (List.Mem.head _)).rd.one
      refine Qa (An 18 30 (by kernel_rfl) rfl (by assumption) rfl (As rfl rfl) (An 19 49 (by kernel_rfl) rfl (by assumption) rfl (AC rfl rfl rfl) (An 20 50 (by kernel_rfl) rfl (by assumption) rfl (AC rfl rfl rfl) (Qo 22 rfl ?_))))
      refine Sa 1 [_, _, _, _] AI rfl (by simp [ox]) ?_
      refine Qa (Qo 23 rfl (Qm rfl (Qa (Qe ?_))))
      exact A9 (AA _ ⟨F, pv, Mx, b, g9, xe, mx, rfl, lcur, rfl, hE, hOx, hcase⟩ Qs)
     exact A3
    exact A3
   ·obtain ⟨F, pv, Mx, b, g9, xe, mx, rfl, l7, rfl, hE, hOx, hcase⟩ := hI
    -- what was lent comes back
    refine F6 Lim (Hp.le_trans lim l7) fun h8 q8 b8 => ?_
    have e1 : ∀ a : Hp, a.le h6 → a.disj mim → a.le h8 := fun a q1 q2 => b8 a (Hp.le_trans q1 l7) q2
    refine Ea (ms' := [AX g9 42 [.int .i64 Mx.p, .int .i64 Mx.rows, .int .i64 Mx.cols, xe], mx, me', mst, mim]) (List.perm_append_comm (l₁ := [_]) (l₂ := [_, _, _, _])) ?_
    have hl58 : h5.le h8 := e1 _ l6 dim
    refine F6 Lv (Hp.le_trans lv hl58) fun h9 q9 b9 => ?_
    have hl49 : h4.le h9 := b9 _ (Hp.le_trans l5 hl58) dv
    refine F6 LM (Hp.le_trans lM (Hp.le_trans l4 hl49)) fun h10 q10 b10 => ?_
    have hl2 : h2.le h10 := b10 _ (Hp.le_trans l3 (Hp.le_trans l4 hl49)) dM
    refine F6 LB (Hp.le_trans lB hl2) fun h11 q11 b11 => ?_
    have hl11 : hh.le h11 := b11 _ (Hp.le_trans l2 hl2) dB
    have hA := hA.up hl11
    have ha := ha.up hl11
    have hG := hG.le hl11
    have hIm := hIm.up hl11
    have hlh := Hp.le_trans hlh hl11
    refine Cu 2 rfl (Bg hOv fun h12 l12 hRv => ?_)
    have hA := hA.up l12
    have ha := ha.up l12
    have hG := hG.le l12
    have hGA := Seg.all hG
    have hIm0 := hIm00
    have hIm := (hIm.up l12).snoc hRv
    have hlh := Hp.le_trans hlh l12
    have ov := hRv.rd.one
    rcases hcase with ⟨hyes, rfl, rfl⟩ | ⟨hno, rfl⟩
    ·-- it ends here
     refine Cu 3 rfl (Bg hOx fun h13 l13 hRx => (Cu 2 rfl (AL fun h14 l14 hGx => ?_)))
     have l1314 := Hp.le_trans l13 l14
     have hA := hA.up l1314
     have ha := ha.up l1314
     have hG := hG.le l1314
     have hGA := Seg.all hG
     have hIm := hIm.up l1314
     have hlh := Hp.le_trans hlh l1314
     have hRx : RdL cI 1 h14 [] xe (mat st.length 1 (CB pv F st.length)) := hRx.up l14
     have hxA := Seg.all hGx
     have hxe : ∀ j, j < st.length → 0 ≤ CB pv F st.length j 0 ∧ CB pv F st.length j 0 < Z.p := fun j hj => by
      unfold CB H9
      split
      ·rename_i h2
       exact hE.red.bd _ (by have := hE.red.len; omega) _ (by omega)
      ·omega
     refine Ac (Ax (Qm rfl (Qm rfl (Aq (Bb rfl (Ai (Ab (Ac (Ax (Qm rfl (Qx (AJ (DC (hst.rd (List.Mem.tail _ (List.Mem.tail _ (List.Mem.tail _ (List.Mem.head _)))))) rfl underlying106 rfl) rfl (Qm rfl (Aq (Ag ?_))))))))))))))
     refine AD (fun q s hh ms' => ∃ (j : Nat) (S' : Nat → SM) (mB : Hp), q = st.length - j ∧ s = [(0, .pointer (some ⟨gm, 0, none⟩)), (3, .pointer (some ⟨g3, 0, none⟩)), (4, vst), (5, vim), (7, .pointer (some ⟨(S (al.getD i 0)).g, 0, none⟩)), (9, .pointer (some ⟨g9, 0, none⟩)), (20, va), (21, .int .i64 al.length), (22, .int .i64 i), (61, vst), (62, .int .i64 st.length), (63, .int .i64 j)] ∧ h14.le hh ∧ ms' = [mB, AX gm 132 [.int .i64 Z.p, .int .i64 k, va, ve'], me', mst, mim] ∧ j ≤ st.length ∧ FwI Z k N S S' st (al.getD i 0) (fun a => CB pv F st.length a 0) j ∧ BagS Z.d N S' mB)
      (st.length - 0) _ ⟨0, S, mB, rfl, rfl, Hp.le_refl _, rfl, by omega, FwI.start W.val W.bd, B⟩ Qs ?_
     rintro q s hh3 ms' ⟨j, S', mB, rfl, rfl, lj, rfl, hj, I, B⟩
     have hRx := hRx.up lj
     have hGx := hGx.le lj
     refine Ax (Qm rfl (Aq (Ac ?_)))
     refine AF rfl (fun hltj => ?_) (fun hltj => ?_)
     ·have hjl : j < st.length := Bx hltj
      have hcj : ∀ ms, mst ∈ ms → Cell hh3 ms ((Bl vst).add (j * 1)) (A1 S0 (st.getD j 0)) := fun ms hm => Em (hst.rd hm) hjl
      refine Ai (Ab (Ac (Ag (Ax (Qm rfl (Qx (Ah _ (DC (hst.rd (List.Mem.tail _ (List.Mem.tail _ (List.Mem.tail _ (List.Mem.head _)))))) rfl underlying106 Cf rfl rfl rfl (by omega)) rfl (Ql rfl underlying108 (hcj _ (List.Mem.tail _ (List.Mem.tail _ (List.Mem.tail _ (List.Mem.head _))))) (Qm rfl (Qm rfl (Aq ?_))))))))))
      have htal : st.getD j 0 ∈ al.take i := W.sub.subset (BF hjl)
      have hta : st.getD j 0 ∈ al := List.mem_of_mem_take htal
      have htN : st.getD j 0 < N := M.lt hta
      have hne : st.getD j 0 ≠ al.getD i 0 := fun he => Ei M.nodup hil (he ▸ htal)
      have htk : (S (st.getD j 0)).to = k := by rw [(W.same _).2.2]; exact M.live _ hta
      have hmay : (Dr N S).may Z (st.getD j 0) (al.getD i 0) := by
       have h1 := M.ord
       have h2 : (al.take (i + 1)).Pairwise ((Dr N S0).may Z) := h1.sublist (List.take_sublist _ _)
       rw [BU hil] at h2
       have h3 := (List.pairwise_append.1 h2).2.2 _ htal (al.getD i 0) (by simp)
       unfold Dc.may at h3 ⊢
       show (S (st.getD j 0)).fr = (S (al.getD i 0)).fr ∨ ((S (al.getD i 0)).fr < (S (st.getD j 0)).fr ∧ Z.back ((S (st.getD j 0)).fr - 1) = true) ∨ ((S (st.getD j 0)).fr < (S (al.getD i 0)).fr ∧ Z.back ((S (al.getD i 0)).fr - 1) = false)
       rw [(W.same (st.getD j 0)).2.1, (W.same (al.getD i 0)).2.1]
       exact h3
      have hgt : A1 S0 (st.getD j 0) = .pointer (some ⟨(S' (st.getD j 0)).g, 0, none⟩) := by unfold A1; rw [(I.same _).1, (W.same _).1]
      have hgs2 : (S (al.getD i 0)).g = (S' (al.getD i 0)).g := (I.same _).1.symm
      rw [hgt, hgs2]
      refine Di (CV fun h15 l15 lM2 dM2 LM2 => ?_)
      have hMA2 := Seg.all (Seg.ofLe lM2)
      have hxj := hxe j hjl
      have hRx5 := hRx.up l15
      have hxA5 := Seg.all (hGx.le l15)
      have hcx : ∀ ms, Cell h15 ms ((Bl xe).add (j * 1)) (.int .i64 (CB pv F st.length j 0)) := fun ms => by
       have := (hRx5.any (ms := ms)).ent (i := j) (j := 0) hjl (by omega)
       rwa [show j * 1 + 0 = j by omega] at this
      have elx : (mat st.length 1 (CB pv F st.length)).length = st.length * 1 := AY _ _ _
      refine AW (n := 17) (bs := [true, true, true, true, true, true, true, true, true, true, true, true, true, true, true, true, false]) [true, true, true, true, true, true, true, true, true, true, true, true, true, true, true, true] Cd (by kernel_rfl) (by kernel_rfl) rfl rfl (Qq rfl (Qq rfl (Qq rfl (QF EY rfl (QL rfl underlying3 (hMA2 0 _ rfl _) (Qq rfl (Qq rfl (QF EY rfl (QL rfl underlying3 (hMA2 0 _ rfl _) (QF Bc rfl (QL rfl underlying24 (hxA5 3 _ rfl _) (Qq rfl (Qp rfl (Ah (j) hRx5.rd.any rfl underlying24 A8 rfl rfl (by omega) (by omega)) (QL rfl underlying3 (hcx _) (Qp rfl (oS rfl) (Qq rfl ?_))))))))))))))))
      unfold CD
      simp only [List.cons_append, List.nil_append]
      refine Qo 16 rfl ?_
      refine Bs (pre := [mB]) rfl call112 rfl (Nn Z.p (Z.p - CB pv F st.length j 0) Z.d N (al.getD i 0) (st.getD j 0) S' mB h15 hbp (by omega) (fun j => Nat.le_trans (hd j) (by omega)) hsN htN (Ne.symm hne) (by rw [(I.same _).2.2, (I.same (st.getD j 0)).2.2, hsk, htk]) (by rw [(I.same _).2.2, hsk]; omega) (I.bd _ hsN) (I.bd _ htN) B) rfl rfl rfl rfl (fun x h16 ms16 l16 hF => ?_)
      obtain ⟨rfl, mB', rfl, B'⟩ := hF
      refine Qw (Qe (E1 LM2 lM2 fun h17 q17 b17 => (A9 (Aj (Ab (Ad (Qx (oA rfl) rfl (Qm rfl (Ak ?_)))))))))
      refine Al (st.length - (j + 1)) _ (by omega) ⟨j + 1, _, mB', rfl, rfl, Hp.le_trans lj (b17 _ l15 dM2), rfl, by omega, I.step (by omega) hsN htN hne hsk htk hmay, B'⟩ Qs
     ·obtain rfl : j = st.length := by omega
      have W' := W.ends hil M.nodup I (fun a ha => by
       have h1 := HJ hE.red hyes (s := 0) (by omega) ha
       refine h1.trans ?_
       unfold D2
       exact Cg.mod _ _)
      have hel : ((en ++ de).map (A1 S0)).length = en.length + de.length := by simp
      have hend : en.length + de.length ≤ N + N := by
       have h1 := (List.Perm.length_eq M.perm)
       have h2 := (List.Perm.length_eq W.perm)
       rw [List.length_append, List.length_range] at h1
       rw [List.length_append, List.length_take] at h2
       omega
      refine Aw (Aa (Aa (Af (Ab (Ad (Qm rfl (Qm rfl (Qm rfl (Qf Hj rfl (Ql rfl underlying106 (Cell.blk 1 (k := 3) rfl rfl) (Qm rfl ?_)))))))))))
      refine AB [_] rfl underlying106 Cf rfl (by rfl) rfl rfl (by omega) rfl rfl rfl (fun g92 => ?_)
      refine Ba 3 hen (RdL.one BK (List.Mem.head _) rfl) rfl underlying106 Cf rfl (by omega) rfl rfl rfl (Cj rfl) (by simp only [List.length_singleton]; omega) (by simp only [List.length_singleton]; omega) rfl rfl rfl (fun ve2 me2 hen2 => ?_)
      have oe2 : ve2.oneCell' = true := (hen2.rd (h := h) (ms := [me2]) (List.Mem.head _)).rd.one
      refine Qm rfl (Qf Hj rfl ?_)
      refine AK 2 _ rfl G2 rfl rfl (by assumption) rfl rfl (by (simp; done)) rfl rfl ?_
      refine Ak (Aj (Ab (Ad (Qx (oA rfl) rfl (Qm rfl (Ak (A5 ?_)))))))
      refine Al (al.length - (i + 1)) _ (by omega) ⟨i + 1, S', st, de ++ [al.getD i 0], w, es, vst, vim, ve2, mB, me2, mst, mim, rfl, rfl, Hp.le_trans hlh lj, rfl, by omega, W', hst, him, ?_, ?_, B⟩ Qs
      ·exact (hIm0.up (Hp.le_trans (Hp.le_trans hl11 l12) (Hp.le_trans l1314 lj)))
      ·rw [List.map_append, List.map_append, ← List.append_assoc, ← List.map_append]
       have e2 : [al.getD i 0].map (A1 S0) = [A1 S0 (al.getD i 0)] := rfl
       rw [e2, hgs]
       exact hen2
    ·-- it stays
     have hstm : (st.map (A1 S0)).length ≤ 400 := by rw [E8]; omega
     have hesl : es.length ≤ 400 := by rw [hIm0.1]; omega
     refine Ac (Ax (Qm rfl (Qm rfl (Aq (AU rfl (Ax (Qm rfl (Qm rfl ?_))))))))
     refine AB [_] rfl underlying106 Cf rfl (by rfl) rfl rfl (by omega) rfl rfl rfl (fun g55 => ?_)
     refine Ba 6 hst (RdL.one BK (List.Mem.head _) rfl) rfl underlying106 Cf rfl (by omega) rfl rfl rfl (Cj rfl) (by simp only [List.length_singleton]; omega) (by simp only [List.length_singleton]; omega) rfl rfl rfl (fun vst2 mst2 hst2 => ?_)
     refine Qm rfl (Qm rfl (AB [_] rfl underlying62 BN rfl ((hRv.rd).cells) rfl rfl (by omega) rfl rfl rfl (fun g59 => ?_)))
     refine Ba 8 him (RdL.one BK (List.Mem.head _) rfl) rfl underlying62 BN rfl (by omega) rfl rfl rfl (Cj ov) (by simp only [List.length_singleton]; omega) (by simp only [List.length_singleton]; omega) rfl rfl rfl (fun vim2 mim2 him2 => ?_)
     refine Qm rfl (Qm rfl (Aq (Aw (Aa (Af (Ab (Ad (Qx (oA rfl) rfl (Qm rfl (Ak (AP 0 rfl (AP 0 rfl (AP 2 rfl (AP 2 rfl ?_))))))))))))))
     have eu : ∀ a, Fq st.length w (D2 Z.p (Z.d k) (Z.mat k) ((S (al.getD i 0)).v k)) st.length a = D2 Z.p (Z.d k) (Z.mat k) ((S (al.getD i 0)).v k) a := fun a => by unfold Fq; rw [if_pos rfl]
     refine Al (al.length - (i + 1)) _ (by omega) ⟨i + 1, S, st ++ [al.getD i 0], de, Fq st.length w (D2 Z.p (Z.d k) (Z.mat k) ((S (al.getD i 0)).v k)), es ++ [v], vst2, vim2, ve', mB, me', mst2, mim2, rfl, rfl, hlh, rfl, by omega, ?_, ?_, him2, ?_, hen, B⟩ Qs
     ·refine W.stay hFp hil (fun t ht a ha => ?_) (fun a ha => eu a) fun x hx => Lq hbp.1 hE.red hno x fun a ha => ?_
      ·unfold Fq; rw [if_neg (by omega)]
      ·have := hx a ha
       rw [eu] at this
       exact this
     ·rw [List.map_append]
      have e2 : [al.getD i 0].map (A1 S0) = [A1 S0 (al.getD i 0)] := rfl
      rw [e2, hgs]
      exact hst2
     ·rw [List.length_append, List.length_singleton]
      exact hIm
  ·obtain rfl : i = al.length := by omega
   refine Aw (Aa (Aa (Af ?_)))
   exact AA _ ⟨S, st, de, w, es, vst, vim, ve', mB, me', mst, mim, rfl, hlh, rfl, W, hst, him, hIm, hen, B⟩ Qs
 ·obtain ⟨S, st, de, w, es, vst, vim, ve', mB, me', mst, mim, rfl, hlh, rfl, W, hst, him, hIm, hen, B⟩ := hI
  refine Cu 4 rfl (Bg him fun h2 l2 hRi => ?_)
  have hsub : st.Sublist al := by have := W.sub; rwa [List.take_length] at this
  have hstl : st.length ≤ al.length := hsub.length_le
  have hnd : st.Nodup := M.nodup.sublist hsub
  have hA := hA.up (Hp.le_trans hlh l2)
  have hG := hG.le (Hp.le_trans hlh l2)
  have hIm := hIm.up l2
  have hlh := Hp.le_trans hlh l2
  have hRin : ∀ (h : Hp), h2.le h → Rd h [] vim 1 st.length (es.flatMap cV) := fun h l => by
   have := (hRi.up l).rd
   rwa [hIm.1] at this
  refine Bv (fun s hh ms' => ∃ (mB : Hp), s = [(0, .pointer (some ⟨gm, 0, none⟩)), (3, .pointer (some ⟨g3, 0, none⟩)), (4, vst), (5, vim)] ∧ h2 = hh ∧ ms' = [mB, AX gm 132 [.int .i64 Z.p, .int .i64 k, va, ve'], me', mst] ∧ BagS Z.d N (BS k w st st.length S) mB) ?_ (fun s h ms hI => ?_)
  ·refine Ac (Ad (Qm rfl (Qx (AJ (DC (hst.rd (List.Mem.tail _ (List.Mem.tail _ (List.Mem.tail _ (List.Mem.head _)))))) rfl underlying106 rfl) rfl (Qm rfl (Aq (Ag ?_))))))
   refine AD (fun q s hh ms' => ∃ (i : Nat) (mB : Hp), q = st.length - i ∧ s = [(0, .pointer (some ⟨gm, 0, none⟩)), (3, .pointer (some ⟨g3, 0, none⟩)), (4, vst), (5, vim), (97, vst), (98, .int .i64 st.length), (99, .int .i64 i)] ∧ h2 = hh ∧ ms' = [mB, AX gm 132 [.int .i64 Z.p, .int .i64 k, va, ve'], me', mst] ∧ i ≤ st.length ∧ BagS Z.d N (BS k w st i S) mB)
    (st.length - 0) _ ⟨0, mB, rfl, rfl, rfl, rfl, by omega, by rw [M3]; exact B⟩ Qs ?_
   rintro q s hh ms' ⟨i, mB, rfl, rfl, rfl, rfl, hi, B⟩
   refine Ax (Qm rfl (Aq (Ac ?_)))
   refine AF rfl (fun hlt => ?_) (fun hlt => ?_)
   ·have hil : i < st.length := Bx hlt
    have hcs : ∀ ms, mst ∈ ms → Cell h2 ms ((Bl vst).add (i * 1)) (A1 S0 (st.getD i 0)) := fun ms hm => Em (hst.rd hm) hil
    have hie : i < es.length := by rw [hIm.1]; exact hil
    have hsN : st.getD i 0 < N := M.lt (hsub.subset (BF hil))
    have hsg := JD (k := k) (w := w) (S := S) (Ei hnd hil)
    have hgs : A1 S0 (st.getD i 0) = .pointer (some ⟨(BS k w st i S (st.getD i 0)).g, 0, none⟩) := by unfold A1; rw [hsg, (W.same _).1]
    have hsk : (BS k w st i S (st.getD i 0)).to = k := by rw [hsg, (W.same _).2.2]; exact M.live _ (hsub.subset (BF hil))
    refine Ai (Ab (Ac (Ag (Ax (Qm rfl (Qx (Ah _ (DC (hst.rd (List.Mem.tail _ (List.Mem.tail _ (List.Mem.tail _ (List.Mem.head _)))))) rfl underlying106 Cf rfl rfl rfl (by omega)) rfl (Ql rfl underlying108 (hcs _ (List.Mem.tail _ (List.Mem.tail _ (List.Mem.tail _ (List.Mem.head _))))) (Qm rfl (Qm rfl (Aq ?_))))))))))
    rw [hgs]
    refine Ad (Qm rfl (Qm rfl (Qm rfl (Qx (Ah _ (hRin _ (Hp.le_refl _)).any rfl underlying62 BN rfl rfl rfl (by omega)) rfl (Ql rfl underlying24 (hRi.any.cell0 hie rfl) ?_)))))
    refine Bs (pre := [mB]) rfl call113 rfl (KZ Z.d N (st.getD i 0) (BS k w st i S) (w i) es[i] mB h2 hsN (by rw [hsk]; exact hIm.2 i hie) (by rw [hsk]; omega) (by omega) B) rfl rfl rfl rfl (fun x h16 ms16 l16 hF => ?_)
    obtain ⟨rfl, mB', rfl, B'⟩ := hF
    refine Ak (Aj (Ab (Ad (Qx (oA rfl) rfl (Qm rfl (Ak ?_))))))
    refine Al (st.length - (i + 1)) _ (by omega) ⟨i + 1, mB', rfl, rfl, rfl, rfl, by omega, ?_⟩ Qs
    rw [M7 hnd hil (by rw [(W.same _).2.2]; exact M.live _ (hsub.subset (BF hil)))] at B'
    exact B'
   ·obtain rfl : i = st.length := by omega
    refine Aw (Aa (Aa (Af ?_)))
    exact AA _ ⟨mB, rfl, rfl, rfl, B⟩ Qs
  ·obtain ⟨mB, rfl, rfl, rfl, B⟩ := hI
   have wr : RtM Z.p (Z.d (k + 1)) st.length (fun a t => w t a) := ⟨hp, by omega, by omega, fun a ha t ht => by
    show 0 ≤ w t a ∧ w t a < Z.p
    rw [W.im t ht a ha]
    exact ⟨Int.emod_nonneg _ (by omega), Int.emod_lt_of_pos _ (by omega)⟩⟩
   have hGA := Seg.all hG
   refine Ax (Qm rfl (Qm rfl (Qf F9 rfl (Ql rfl underlying3 (Cell.blk 1 (k := 1) rfl rfl) (Qx (oA rfl) rfl (Qm rfl (Qf F9 rfl ?_)))))))
   refine AK 1 _ rfl A8 rfl rfl (by rfl) rfl rfl (by (simp; done)) rfl rfl ?_
   refine Aq ?_
   refine Bv (fun s hh ms' => ∃ (F : Nat → Nat → Int) (pv : List Nat) (gb : Nat → Nat) (vst : Value) (mB mst : Hp), s = [(0, .pointer (some ⟨gm, 0, none⟩)), (4, vst)] ∧ h2.le hh ∧ ms' = [mB, AX gm 132 [.int .i64 Z.p, .int .i64 ((k : Int) + 1), va, ve'], me', mst] ∧ Ho Z.p (Z.d (k + 1)) (st.length + Z.d (k + 1)) (jn st.length (fun i j => w j i) Dl) F pv ∧ (from_ st.length pv).length ≤ 200 ∧ BagS Z.d (N + (from_ st.length pv).length) (BY N k gb (fun t i => jn st.length (fun i j => w j i) Dl i ((from_ st.length pv).getD t 0)) (BS k w st st.length S)) mB ∧ OwnL cV 1 108 mst vst ((st ++ List.range' N (from_ st.length pv).length).map (A1 (BY N k gb (fun t i => jn st.length (fun i j => w j i) Dl i ((from_ st.length pv).getD t 0)) (BS k w st st.length S))))) ?_ (fun s h ms hI => ?_)
   ·refine Ac (AW (n := 10) (bs := [true, true, true, false, true, true, true, false, false, true]) [true, true, true, false, true, true, true, false, false, true] Cd (by kernel_rfl) (by kernel_rfl) rfl rfl (Qq rfl (Qq rfl (QF EY rfl (QF Bh rfl (QL rfl underlying3 (hGA 1 _ rfl _) (Qq rfl (Qq rfl ?_))))))))
    unfold CD
    simp only [List.cons_append, List.nil_append]
    refine Qo 3 rfl (Ql rfl underlying3 (Cell.blk0 1 rfl rfl) (Qw (Qo 7 rfl (Qc call116 rfl (Rx Z.p (Z.d (k + 1)) st.length w vim h2 wr (by omega) (hIm.rd hRi)) (fun vb h3 ms3 l3 hF => ?_)))))
    obtain ⟨l3, F, pv, ma2, mb2, es2, hEch, rfl, hOa, hBb⟩ := hF
    have hRbl : Rd h3 [ma2, mb2] vb 1 (from_ st.length pv).length (es2.flatMap cV) := by have := (hOa.rd (h := h3) (ms := [ma2, mb2]) (List.Mem.head _)).rd; rwa [hBb.1] at this
    refine Qa (An 8 126 (by kernel_rfl) rfl (by assumption) rfl (CH hRbl rfl underlying62 rfl) (Qe (Ab (Ag (Bg hOa fun h4 l4 hRa => (CV fun h5 l5 lm5 _ _ => ?_))))))
    have hRa := hRa.up l5
    have hRV : RdV h5 vb (from_ st.length pv).length (Z.d (k + 1)) (fun t i => jn st.length (fun i j => w j i) Dl i ((from_ st.length pv).getD t 0)) := hBb.rd hRa lm5
    have l25 := Hp.le_trans l3 (Hp.le_trans l4 l5)
    have hlh := Hp.le_trans hlh l25
    have hev : ∀ t (ht : t < es2.length), RdL cI 1 h5 [] es2[t] (vec (Z.d (k + 1)) fun i => jn st.length (fun i j => w j i) Dl i ((from_ st.length pv).getD t 0)) := fun t ht => by
     obtain ⟨x, hx, O⟩ := Bag.all hBb.2 t (by rw [← hBb.1]; exact ht)
     rw [Ev ht] at O
     exact O.rdh (Hp.le_trans hx lm5)
    have hnbl : (from_ st.length pv).length ≤ 200 := by
     have h1 := hEch.red.len
     have h2 : (from_ st.length pv).length ≤ pv.length := List.length_filter_le _ _
     omega
    generalize hu : (fun t i => jn st.length (fun i j => w j i) Dl i ((from_ st.length pv).getD t 0)) = u at *
    generalize hnb : (from_ st.length pv).length = nb at *
    have hRbn : ∀ h, h5.le h → Rd h [] vb 1 nb (es2.flatMap cV) := fun h l => by
     have := (hRa.up l).rd
     rwa [hBb.1] at this
    refine AD (fun q s hh ms' => ∃ (b : Nat) (gb : Nat → Nat) (vst : Value) (mB mst : Hp), q = nb - b ∧ s = [(0, .pointer (some ⟨gm, 0, none⟩)), (4, vst), (125, vb), (126, .int .i64 nb), (127, .int .i64 b)] ∧ h5.le hh ∧ ms' = [mB, AX gm 132 [.int .i64 Z.p, .int .i64 ((k : Int) + 1), va, ve'], me', mst] ∧ b ≤ nb ∧ BagS Z.d (N + b) (BY N k gb u (BS k w st st.length S)) mB ∧ OwnL cV 1 108 mst vst ((st ++ List.range' N b).map (A1 (BY N k gb u (BS k w st st.length S)))))
     (nb - 0) _ ⟨0, fun _ => 0, vst, mB, mst, rfl, rfl, Hp.le_refl _, rfl, by omega, ?_, ?_⟩ Qs ?_
    ·exact B.mono fun l hl x O => by rw [ET hl]; exact O
    ·rw [List.range'_zero, List.append_nil]
     have e1 : st.map (A1 (BY N k (fun _ => 0) u (BS k w st st.length S))) = st.map (A1 S0) := List.map_congr_left fun l hl => by
      unfold A1; rw [ET (M.lt (hsub.subset hl)), (NJ _).1, (W.same l).1]
     rw [e1]
     exact hst
    rintro q s hh ms' ⟨b, gb, vst, mB, mst, rfl, rfl, lb, rfl, hb2, B, hst⟩
    refine Ax (Qm rfl (Aq (Ac ?_)))
    refine AF rfl (fun hltb => ?_) (fun hltb => ?_)
    ·have hbl : b < nb := Bx hltb
     have hbe : b < es2.length := by rw [hBb.1]; exact hbl
     have hRv : RdL cI 1 hh [] es2[b] (vec (Z.d (k + 1)) (u b)) := by
      have := (hev b hbe).up lb
      rw [← hu]
      exact this
     have ov := hRv.rd.one
     refine Ai (Ab (Ac (Ag (Ax (Qx (Ah _ (hRbn _ lb).any rfl underlying62 BN rfl rfl rfl (by omega)) rfl (Ql rfl underlying24 ((hRa.up lb).any.cell0 hbe rfl) (Qm rfl (Aq (Di (CV fun h6 l6 lM dM LM => (Ad (Qm rfl (Qm rfl (Qm rfl (Qc call88 rfl (Hm Z.d gm (k + 1) (u b) es2[b] _ _ _ h6 (Seg.ofLe lM) (hRv.up l6) (by omega)) (fun x h7 ms7 l7 hF => ?_))))))))))))))))
     obtain ⟨rfl, g, m, rfl, rfl, hS⟩ := hF
     have hstl2 : ((st ++ List.range' N b).map (A1 (BY N k gb u (BS k w st st.length S)))).length ≤ 1000 := by simp; omega
     refine AB [_] rfl underlying106 Cf rfl (by rfl) rfl rfl (by omega) rfl rfl rfl (fun g135 => ?_)
     refine Ba 4 hst (RdL.one BK (List.Mem.head _) rfl) rfl underlying106 Cf rfl (by omega) rfl rfl rfl (Cj rfl) (by simp only [List.length_singleton]; omega) (by simp only [List.length_singleton]; omega) rfl rfl rfl (fun vst2 mst2 hst2 => ?_)
     refine Qm rfl (Ak (Aj (Ab (Ad (Qx (oA rfl) rfl (Qm rfl (Ak (A5 (E1 LM lM fun h8 q8 b8 => (Ck fun hap => ?_))))))))))
     have hdj : mB.disj m := by
      have h1 := (List.pairwise_cons.1 hap).2
      exact Hp.disj_symm ((List.pairwise_cons.1 h1).1 _ (by simp))
     refine Db 1 rfl (Db 2 rfl (Cq ?_))
     refine Al (nb - (b + 1)) _ (by omega) ⟨b + 1, Ja gb (N + b) g, vst2, mB.join m, mst2, rfl, rfl, Hp.le_trans lb (b8 _ l6 dM), rfl, by omega, ?_, ?_⟩ Qs
     ·refine Bag.snoc (N := N + b) (B.mono fun l hl x O => ?_) ?_ hdj
      ·rw [Ew (by omega)]; exact O
      ·rw [Dx (Nat.le_add_right N b)]
       show StO Z.d (if N + b = N + b then g else gb (N + b)) (k + 1) (k + 1) (fun _ => u (N + b - N)) m
       rw [if_pos rfl, Nat.add_sub_cancel_left]
       exact hS
     ·have e1 : (st ++ List.range' N (b + 1)).map (A1 (BY N k (Ja gb (N + b) g) u (BS k w st st.length S))) = (st ++ List.range' N b).map (A1 (BY N k gb u (BS k w st st.length S))) ++ [.pointer (some ⟨g, 0, none⟩)] := by
       rw [List.range'_1_concat, ← List.append_assoc, List.map_append]
       congr 1
       ·refine List.map_congr_left fun l hl => ?_
        unfold A1
        rw [Ew]
        rcases List.mem_append.1 hl with h | h
        ·have := M.lt (hsub.subset h); omega
        ·have := List.mem_range'_1.1 h; omega
       ·show [A1 _ (N + b)] = _
        unfold A1
        rw [Dx (Nat.le_add_right N b)]
        show [Value.pointer (some ⟨(if N + b = N + b then g else gb (N + b)), 0, none⟩)] = _
        rw [if_pos rfl]
      rw [e1]
      exact hst2
    ·obtain rfl : b = nb := by omega
     refine Aw (Aa (Aa (Af ?_)))
     subst hnb
     subst hu
     exact AA _ ⟨F, pv, gb, vst, mB, mst, rfl, Hp.le_trans l25 lb, rfl, hEch, hnbl, B, hst⟩ Qs
   ·obtain ⟨F, pv, gb, vst, mB, mst, rfl, lb, rfl, hEch, hnbl, B, hst⟩ := hI
    have ost : vst.oneCell' = true := (hst.rd (h := h) (ms := [mst]) (List.Mem.head _)).rd.one
    refine Ad (Qm rfl (Qm rfl (Qm rfl (Qf DL rfl ?_))))
    refine AK 1 _ rfl G2 rfl rfl (by assumption) rfl rfl (by (simp; done)) rfl rfl ?_
    refine Ak (Db 3 rfl (CW hst fun h9 l9 hRst => ?_))
    have Mn := Fw.done (gb := gb) hFp hbp.1 M W hb hEch.red
    have e1 : (en ++ de).map (A1 (BY N k gb (fun t i => jn st.length (fun i j => w j i) Dl i ((from_ st.length pv).getD t 0)) (BS k w st st.length S))) = (en ++ de).map (A1 S0) := List.map_congr_left fun l hl => by
     have hlN : l < N := by
      rcases List.mem_append.1 hl with h1 | h1
      ·exact List.mem_range.1 (M.perm.mem_iff.1 (List.mem_append_left _ h1))
      ·have h2 := W.perm.mem_iff.1 (List.mem_append_right _ h1)
       exact M.lt (List.mem_of_mem_take h2)
     unfold A1; rw [ET hlN, (NJ _).1, (W.same l).1]
    exact B6 rfl (⟨Hp.le_trans l1 (Hp.le_trans hlh (Hp.le_trans lb l9)), _, _, _, _, vst, ve', me', mB, rfl, hnbl, hRst, by rw [e1]; exact hen, B, Mn⟩)
end Go.Proofs.YtdnelknieikbaaaGreat
namespace Go.Proofs.YtdnelknieikbaaaGreat
open Go.Eng Go.RowKit Go.Lin
variable {a b : Nat}
structure Uq (p : Int) (r c : Nat) (A L : Nat → Nat → Int) (q : Nat) (X U : Nat → Nat → Int) : Prop where
 rank : ∀ F pv, Ho p r c A F pv → pv.length = q
 bdX : ∀ t, t < q → ∀ i, i < r → 0 ≤ X t i ∧ X t i < p
 bdU : ∀ t, t < q → ∀ i, i < c → 0 ≤ U t i ∧ U t i < p
 top : ∃ top : Nat → Nat, ∀ t, t < q → top t < r ∧ X t (top t) = 1 ∧ (∀ i, top t < i → i < r → X t i = 0) ∧ ∀ t', t' < q → t' ≠ t → X t' (top t) = 0
 lift : ∀ t, t < q → ∀ i, i < r → Cg p (ap A c (U t) i) (ap L r (X t) i)
theorem Oq {p : Int} (Fp : Lin.Fld p) {r c : Nat} {f F F' : Nat → Nat → Int} {pv pv' : List Nat} (R : Red p r c f F pv c) (R' : Red p r c f F' pv' c) : pv.length = pv'.length := by
 have h1 := CA Fp (F7 R) fun l hl _ => F4 R' hl
 have h2 := CA Fp (F7 R') fun l hl _ => F4 R hl
 rw [C6 R, C6 R'] at h1
 rw [C6 R, C6 R'] at h2
 omega
theorem Pq {p : Int} (Fp : Lin.Fld p) {r c : Nat} {f F : Nat → Nat → Int} {pv : List Nat} (R : Red p r c f F pv c) (hI : Ind p r tt c (fun l b => f l b)) : pv.length = r := by
 refine Nat.le_antisymm R.len (Nat.le_of_not_lt fun hlt => ?_)
 obtain ⟨u, ⟨j, hj, hnd⟩, hu⟩ := IK Fp pv.length r (fun k i => f i (pv.getD k 0)) hlt
 refine hnd (hI u (fun b hb => ?_) j hj rfl)
 rw [Cs]
 have h1 : Cg p (sm r fun l => u l * f l b) (sm r fun l => u l * ap f c (Gg pv fun k => F k b) l) := Cg.sm fun l hl => (Cg.refl p (u l)).mul (Ii R hb hl)
 refine h1.trans ?_
 have h2 : (sm r fun l => u l * ap f c (Gg pv fun k => F k b) l) = sm c fun a => Gg pv (fun k => F k b) a * sm r fun l => u l * f l a := by
  unfold ap
  rw [AE (g := fun l => sm c fun a => Gg pv (fun k => F k b) a * (u l * f l a)) fun l _ => by
   rw [← Cb]
   exact AE fun a _ => by rw [Int.mul_comm (f l a), ← Int.mul_assoc, ← Int.mul_assoc, Int.mul_comm (u l)], D9]
  exact AE fun a _ => Cb _ _ _
 rw [h2]
 refine Cg.trans (Cg.sm (g := fun _ => 0) fun a ha => ?_) (Cg.of_eq (CS c))
 by_cases hm : a ∈ pv
 ·obtain ⟨k, hk, rfl⟩ := List.mem_iff_getElem.1 hm
  have h3 := hu k hk
  have h4 : Cg p (sm r fun l => u l * f l pv[k]) 0 := by
   refine Cg.trans (Cg.of_eq (AE fun l _ => ?_)) h3
   rw [Cn hk, Int.mul_comm]
  have := (Cg.refl p (Gg pv (fun k => F k b) pv[k])).mul h4
  rwa [Int.mul_zero] at this
 ·rw [FI _ hm, Int.zero_mul]; exact Cg.refl _ _
theorem V9 (A B : Nat → Nat → Int) (n m : Nat) (x : Nat → Int) (i : Nat) : ap A n (fun j => ap B m x j) i = ap (fun i k => sm n fun j => A i j * B j k) m x i := by
 unfold ap
 rw [AE (g := fun j => sm m fun k => A i j * B j k * x k) fun j _ => by
  rw [← Cb]
  exact AE fun k _ => by rw [Int.mul_assoc], D9]
 exact AE fun k _ => Iy _ _ _
section
variable {p : Int} {r c : Nat} {A L : Nat → Nat → Int} {F : Nat → Nat → Int} {pv : List Nat} {Fa : Nat → Nat → Int} {pa : List Nat}
theorem Tr (hp : 2 ≤ p) (Fp : Lin.Fld p) (hI : Ind p r tt r (fun l i => L i l)) (R : Red p r (r + r) (jn r L Dl) F pv (r + r)) (k : Nat) {i : Nat} (hi : i < r) : Cg p (ap L r (fun j => Fb p r (CB pv F r) (FL pa A) j k) i) (FL pa A i k) := by
 have hlt := Sc Fp hp hI R
 have h1 : Cg p (ap L r (fun j => Fb p r (CB pv F r) (FL pa A) j k) i) (ap L r (fun j => ap (CB pv F r) r (fun t => FL pa A t k) j) i) := EC (fun j _ => Cg.mod _ _) i
 refine h1.trans ?_
 rw [V9]
 have h2 : ∀ t, t < r → Cg p (sm r fun j => L i j * CB pv F r j t) (if i = t then 1 else 0) := fun t ht => HJ R hlt ht hi
 refine (Cg.sm (g := fun t => (if i = t then 1 else 0) * FL pa A t k) fun t ht => (h2 t ht).mul (Cg.refl _ _)).trans (Cg.of_eq ?_)
 rw [DZ r i _ hi fun t _ hne => by rw [if_neg (Ne.symm hne), Int.zero_mul], if_pos rfl, Int.one_mul]
def SP (r : Nat) (C : Nat → Nat → Int) (k b : Nat) : Int := C (r - 1 - b) k
def It (r : Nat) (C : Nat → Nat → Int) (k i a b : Nat) : Int := if a < k ∨ (a = k ∧ r - 1 - b < i) then SP r C a b else 0
theorem On {r k i : Nat} (C : Nat → Nat → Int) (hi : i < r) (hb : b < r) : DB (It r C k i) k (r - 1 - i) (C i k) a b = It r C k (i + 1) a b := by
 unfold DB It SP
 by_cases h : a = k ∧ b = r - 1 - i
 ·obtain ⟨rfl, rfl⟩ := h
  rw [if_pos ⟨rfl, rfl⟩, if_pos (by omega)]; congr 1; omega
 ·rw [if_neg h]
  by_cases h2 : a < k ∨ (a = k ∧ r - 1 - b < i)
  ·rw [if_pos h2, if_pos (by omega)]
  ·rw [if_neg h2, if_neg (by omega)]
theorem QH {r k : Nat} (C : Nat → Nat → Int) (hb : b < r) : It r C k r a b = It r C (k + 1) 0 a b := by
 unfold It
 by_cases h2 : a < k ∨ (a = k ∧ r - 1 - b < r)
 ·rw [if_pos h2, if_pos (by omega)]
 ·rw [if_neg h2, if_neg (by omega)]
theorem OJ (r : Nat) (C : Nat → Nat → Int) (a b : Nat) : It r C 0 0 a b = 0 := if_neg (by omega)
theorem Rm {r q : Nat} (C : Nat → Nat → Int) (ha : a < q) : It r C q 0 a b = SP r C a b := if_pos (.inl ha)
theorem TY (hp : 2 ≤ p) (Fp : Lin.Fld p) (hI : Ind p r tt r (fun l i => L i l)) (R : Red p r (r + r) (jn r L Dl) F pv (r + r)) (Ra : Red p r c A Fa pa c) {T : Nat → Nat → Int} {pt : List Nat} (RT : Red p pa.length r (SP r (Fb p r (CB pv F r) (FL pa A))) T pt r) :
  (∃ top : Nat → Nat, ∀ t, t < pa.length → top t < r ∧ T t (r - 1 - top t) = 1 ∧ (∀ i, top t < i → i < r → T t (r - 1 - i) = 0) ∧ ∀ t', t' < pa.length → t' ≠ t → T t' (r - 1 - top t) = 0) ∧
  ∀ t, t < pa.length → ∃ y : Nat → Int, ∀ i, i < r → Cg p (ap A c y i) (ap L r (fun i => T t (r - 1 - i)) i) := by
 generalize hC : Fb p r (CB pv F r) (FL pa A) = C at *
 have hLC : ∀ k i, i < r → Cg p (ap L r (fun j => C j k) i) (FL pa A i k) := fun k i hi => by rw [← hC]; exact Tr hp Fp hI R k hi
 -- the columns of C are independent
 have hCI : Ind p pa.length tt r (fun l i => C i l) := fun u hu l hl hb => by
  refine Lc Ra u (fun i hi => ?_) l hl hb
  rw [Cs]
  have h1 : Cg p (sm pa.length fun l => u l * A i (pa.getD l 0)) (sm pa.length fun l => u l * ap L r (fun j => C j l) i) := Cg.sm fun l _ => (Cg.refl p (u l)).mul (hLC l i hi).symm
  refine h1.trans ?_
  have h2 : (sm pa.length fun l => u l * ap L r (fun j => C j l) i) = ap L r (fun j => Bj pa.length tt u (fun l i => C i l) j) i := by
   unfold ap
   rw [AE (g := fun l => sm r fun j => L i j * (u l * C j l)) fun l _ => by
    rw [← Cb]
    exact AE fun j _ => by rw [← Int.mul_assoc, ← Int.mul_assoc, Int.mul_comm (u l)], D9]
   exact AE fun j _ => by
    show _ = L i j * Bj pa.length tt u (fun l i => C i l) j
    rw [Cs, ← Cb]
  rw [h2]
  refine (EC (fun j hj => hu j hj) i).trans (Cg.of_eq (J8 L r i))
 have hTI : Ind p pa.length tt r (fun l b => SP r C l b) := fun u hu l hl hb => by
  refine hCI u (fun i hi => ?_) l hl hb
  have := hu (r - 1 - i) (by omega)
  unfold SP at this
  rw [Cs] at this ⊢
  rwa [show r - 1 - (r - 1 - i) = i by omega] at this
 have hlen := Pq Fp RT hTI
 refine ⟨⟨fun t => r - 1 - pt.getD t 0, fun t ht => ?_⟩, fun t ht => ?_⟩
 ·have htl : t < pt.length := by omega
  have hlt := RT.lt t htl
  dsimp only
  rw [Cn htl]
  have e : r - 1 - (r - 1 - pt[t]) = pt[t] := by omega
  refine ⟨by omega, ?_, fun i hi hir => ?_, fun t' ht' hne => ?_⟩
  ·rw [e, RT.col t ht t htl, if_pos rfl]
  ·exact RT.left t htl _ (by omega)
  ·rw [e, RT.col t' ht' t htl, if_neg hne]
 ·obtain ⟨u, hu⟩ := RT.row t ht
  -- the row is a sum of multiples of rows; so the combination is one of columns of the image
  refine ⟨fun a => Gg pa u a, fun i hi => ?_⟩
  have h1 : Cg p (ap L r (fun i => T t (r - 1 - i)) i) (ap L r (fun i => sm pa.length fun l => u l * C i l) i) := EC (fun j hj => by
   have := hu (r - 1 - j) (by omega)
   unfold SP at this
   rwa [show r - 1 - (r - 1 - j) = j by omega] at this) i
  have h2 : ap L r (fun i => sm pa.length fun l => u l * C i l) i = sm pa.length fun l => u l * ap L r (fun j => C j l) i := by
   unfold ap
   rw [AE (g := fun j => sm pa.length fun l => u l * (L i j * C j l)) fun j _ => by
    rw [← Cb]
    exact AE fun l _ => by rw [← Int.mul_assoc, ← Int.mul_assoc, Int.mul_comm (L i j)], D9]
   exact AE fun l _ => Cb _ _ _
  have h3 : Cg p (sm pa.length fun l => u l * ap L r (fun j => C j l) i) (sm pa.length fun l => u l * A i (pa.getD l 0)) := Cg.sm fun l _ => (Cg.refl p (u l)).mul (hLC l i hi)
  have h4 : ap A c (fun a => Gg pa u a) i = sm pa.length fun l => u l * A i (pa.getD l 0) := by
   unfold ap
   have e1 : (sm c fun a => A i a * Gg pa u a) = sm c fun a => if pa.contains a then A i a * Gg pa u a else 0 := AE fun a _ => by
    by_cases hm : a ∈ pa
    ·rw [if_pos (List.contains_iff_mem.2 hm)]
    ·rw [if_neg (fun h => hm (List.contains_iff_mem.1 h)), FI _ hm, Int.mul_zero]
   rw [e1, KC c (fun b => pa.contains b) fun a => A i a * Gg pa u a, C6 Ra, Gm Ra.sorted Ra.mem_lt]
   exact AE fun l hl => by rw [Cn hl, MW Ra.nodup u hl, Int.mul_comm]
  rw [h4]
  exact (h1.trans ((Cg.of_eq h2).trans h3)).symm
end
end Go.Proofs.YtdnelknieikbaaaGreat
