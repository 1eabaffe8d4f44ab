/- A part of the proof. -/
import Derived.Test.YtodheebhahdepaaGreatMD
set_option linter.unusedSimpArgs false
set_option linter.unusedVariables false
set_option linter.unusedSectionVars false
set_option maxRecDepth 100000
set_option maxHeartbeats 4000000
namespace Go.Proofs.YtodheebhahdepaaGreat
open Go.Proofs.Tryz
open Go.Eng Go.RowKit
variable {es : List Value}
theorem RdEs.nil (h : Hp) : RdEs h [] [] := ⟨rfl, fun i h1 => absurd h1 (by simp)⟩
theorem IJ (H : ∀ u ∈ es, u.oneCell' = true) : ∀ a ∈ es, ∀ c ∈ cW a, c.oneCell' = true := fun a ha c hc => by
 rw [List.mem_singleton.1 hc]; exact H a ha
theorem Lg {e : Entry} {Q : Exit → Act → World → Prop} {ops : Array Oper} {r : List Oper} {s : Ar} {ms : List Hp} : ∀ (pre : List Hp) (h : Hp), (∀ h', h.le h' → (∀ m ∈ pre, m.le h') → WL e ops Q r s h' ms) → WL e ops Q r s h (pre ++ ms)
 | [], h, k => k h (Hp.le_refl _) (fun m hm => by cases hm)
 | m :: pre, h, k => AN fun h1 l1 k1 => Lg pre h1 fun h2 l2 k2 => k h2 (Hp.le_trans l1 l2) fun m' hm => by
  rcases List.mem_cons.1 hm with rfl | hm
  ·exact Hp.le_trans k1 l2
  ·exact k2 m' hm
def Tu (all : List (List Int)) : Option (List Int) → List (List Int)
 | some s => Cu all s (2 ^ s.length - 1)
 | none => all
theorem Ei (all : List (List Int)) (l : List Int) (ll : List (List Int)) : Ct all (l :: ll) = if 4000 < (Tu all (Ed [] l)).length then none else Ct (Tu all (Ed [] l)) ll := by
 show (let a2 := match Ed [] l with | some s => Cu all s (2 ^ s.length - 1) | none => all; if 4000 < a2.length then none else Ct a2 ll) = _
 cases Ed [] l <;> rfl
theorem Sh {r : Value} {ms : List Hp} {o : Option (List Int)} (H : XV r ms o) (h9 : ∀ s, o = some s → s.length ≤ 9) : ∃ (vs : Value) (s : List Int) (b : Bool), r = .tuple #[vs, .bool b] ∧ ((∀ h, (∀ m ∈ ms, m.le h) → RdL cI 1 h [] vs s) ∧ s.length ≤ 9) ∧ ∀ all, Tu all o = if b then Cu all s (2 ^ s.length - 1) else all := by
 cases o with
 | none => exact ⟨_, [], false, H, ⟨fun h _ => ⟨Rd.nil _ _ _, AT⟩, by simp⟩, fun all => rfl⟩
 | some s =>
  obtain ⟨v, m, rfl, e, O⟩ := H
  exact ⟨v, s, true, e, ⟨fun h hm => O.rdh (hm m (List.Mem.head _)), h9 s rfl⟩, fun all => rfl⟩
theorem Ih : ∀ (l acc : List Int) (s : List Int), acc.length ≤ 9 → Ed acc l = some s → s.length ≤ 9
 | [], acc, s, h, e => by
  have : acc = s := Option.some.inj e
  rw [← this]; exact h
 | x :: l, acc, s, h, e => by
  unfold Ed at e
  split at e
  ·exact Ih l acc s h e
  ·split at e
   ·cases e
   ·exact Ih l _ s (by omega) e
theorem RdEs.ones {h : Hp} {ll : List (List Int)} (H : RdEs h es ll) : ∀ u ∈ es, u.oneCell' = true := fun u hu => by
 obtain ⟨i, hi, rfl⟩ := List.mem_iff_getElem.1 hu
 exact (H.2 i hi (by have := H.1; omega)).rd.one
theorem RdEs.ins {h : Hp} {ll : List (List Int)} (H : RdEs h es ll) {v : Value} {t : List Int} (hv : RdL cI 1 h [] v t) (k : Nat) (hk : k ≤ ll.length) : RdEs h (es.take k ++ v :: es.drop k) (ll.take k ++ t :: ll.drop k) := by
 have hl := H.1
 refine ⟨by simp [hl], fun i h1 h2 => ?_⟩
 rcases Nat.lt_trichotomy i k with h3 | h3 | h3
 ·rw [List.getElem_append_left (by rw [List.length_take]; omega), List.getElem_append_left (by rw [List.length_take]; omega), List.getElem_take, List.getElem_take]
  exact H.2 i (by omega) (by omega)
 ·subst h3
  rw [List.getElem_append_right (by rw [List.length_take]; omega), List.getElem_append_right (by rw [List.length_take]; omega)]
  have e1 : i - (es.take i).length = 0 := by rw [List.length_take]; omega
  have e2 : i - (ll.take i).length = 0 := by rw [List.length_take]; omega
  simp only [e1, e2, List.getElem_cons_zero]
  exact hv
 ·rw [List.length_append, List.length_cons, List.length_take, List.length_drop] at h1 h2
  rw [List.getElem_append_right (by rw [List.length_take]; omega), List.getElem_append_right (by rw [List.length_take]; omega)]
  have e1 : i - (es.take k).length = (i - k - 1) + 1 := by rw [List.length_take]; omega
  have e2 : i - (ll.take k).length = (i - k - 1) + 1 := by rw [List.length_take]; omega
  simp only [e1, e2, List.getElem_cons_succ, List.getElem_drop]
  have e3 : k + (i - k - 1) = i - 1 := by omega
  simp only [e3]
  exact H.2 (i - 1) (by omega) (by omega)
theorem GY {all : List (List Int)} (H : SrtB all) (s : List Int) : ∀ n, ∀ t, t ∈ Cu all s n ↔ t ∈ all ∨ ∃ b, 1 ≤ b ∧ b ≤ n ∧ t = DY s b s.length
 | 0, t => ⟨.inl, fun h => by rcases h with h | ⟨b, h1, h2, _⟩; exact h; omega⟩
 | n + 1, t => by
  show t ∈ Iz (Cu all s n) (DY s (n + 1) s.length) ↔ _
  rw [(Nm (DO H s n) _).2 t, GY H s n t]
  constructor
  ·rintro (h | h | ⟨b, h1, h2, h3⟩)
   ·exact .inr ⟨n + 1, by omega, by omega, h⟩
   ·exact .inl h
   ·exact .inr ⟨b, h1, by omega, h3⟩
  ·rintro (h | ⟨b, h1, h2, h3⟩)
   ·exact .inr (.inl h)
   ·rcases (by omega : b ≤ n ∨ b = n + 1) with h4 | rfl
    ·exact .inr (.inr ⟨b, h1, h4, h3⟩)
    ·exact .inl h3
theorem N0 (s : List Int) (b n : Nat) : (DY s b n).length ≤ n := by
 unfold DY; rw [List.length_map]; exact Nat.le_trans (List.length_filter_le _ _) (by simp)
theorem Ef : ∀ (ll acc all : List (List Int)), SrtB acc → (∀ t ∈ acc, t.length ≤ 9) → Ct acc ll = some all → ∀ t ∈ all, t.length ≤ 9
 | [], acc, all, _, h, e => by
  have : acc = all := Option.some.inj e
  rw [← this]; exact h
 | l :: ll, acc, all, hS, h, e => by
  rw [Ei] at e
  split at e
  ·cases e
  ·refine Ef ll _ all ?_ ?_ e
   ·cases Ed [] l with
    | none => exact hS
    | some s => exact DO hS s _
   ·cases hs : Ed [] l with
    | none => exact h
    | some s =>
     intro t ht
     rcases (GY hS s _ t).1 ht with h1 | ⟨b, _, _, rfl⟩
     ·exact h t h1
     ·exact Nat.le_trans (N0 _ _ _) (Ih _ _ s (by simp) hs)
def Nj (all : List (List Int)) (S : List Int) (k : Nat) : List (Int × Int) := (List.range k).map fun k => (((Cx all (S.eraseIdx k)).1 : Int) + 1, 1 - 2 * ((k : Int) % 2))
theorem RI (all : List (List Int)) (S : List Int) (k : Nat) : Nj all S (k + 1) = Nj all S k ++ [(((Cx all (S.eraseIdx k)).1 : Int) + 1, 1 - 2 * ((k : Int) % 2))] := by
 unfold Nj
 rw [List.range_succ, List.map_append]; rfl
theorem Ht (all : List (List Int)) (S : List Int) (k : Nat) : (Nj all S k).length = k := by simp [Nj]
theorem BU (ll : List (List Int)) (es0 : List Value) (v : Value) (h : Hp) (hn : ll.length ≤ 100000) (hn2 : ∀ l ∈ ll, l.length ≤ 100000) (hV : RdL cW 1 h [] v es0) (hE : RdEs h es0 ll) : FnT Tryz.prog 15 #[v] h [] (fun r h' ms' => h.le h' ∧ ∃ m A v', ms' = [m] ∧ r = .agg #[v'] ∧ OwnL cC 3 59 m v' A ∧ A.map Ce.c = Dw ll ∧ ∀ a ∈ A, RdL cD 2 h' [] a.v a.c.sd) := by
 have o1 := hV.rd.one
 have hle := hE.1
 refine Av func15 ntmps15 rfl rfl (fun w0 hw0 => ?_)
 simp only [A5]
 refine Az (C4 [.slice none 0 0] rfl Bi rfl rfl (fun g2 => BG (Qm rfl (An (Ac (Az (Qm rfl (An (Ah (Bz ?_))))))))))
 refine AD (fun q s hh ms' => ∃ (i : Nat) (v3 : Value) (m3 : Hp) (es : List Value) (all : List (List Int)), q = ll.length - i ∧ s = [(0, v), (2, .pointer (some ⟨g2, 0, none⟩)), (3, v3), (4, .int .i64 i)] ∧ h.le hh ∧ ms' = [m3, Bf g2 29 [.slice none 0 0]] ∧ i ≤ ll.length ∧ OwnL cW 1 25 m3 v3 es ∧ RdEs hh es all ∧ SrtB all ∧ all.length ≤ 4000 ∧ Ct [] ll = Ct all (ll.drop i))
  (ll.length - 0) _ ⟨0, _, Hp.emp, [], [], rfl, rfl, Hp.le_refl _, rfl, by omega, OwnL.nil Dn, RdEs.nil _, List.Pairwise.nil, by simp, rfl⟩ Qs ?_
 rintro q s hh ms' ⟨i, v3, m3, es, all, rfl, rfl, lh, rfl, hi, hO, hEs, hSrt, hal, he⟩
 have hV := hV.up lh
 have hE := hE.up lh
 refine Ac (Az (Qm rfl (Qm rfl (Qx (AC hV.rd.any rfl underlying22 rfl) rfl (Qm rfl (An ?_))))))
 refine Ax rfl (fun hlt => ?_) (fun hlt => ?_)
 ·have hil : i < ll.length := by omega
  have hie : i < es0.length := by omega
  have hci : ∀ ms, Cell hh ms ((AI v).add (i * 1)) es0[i] := fun ms => (hV.any (ms := ms)).cell0 hie rfl
  have oei := (hE.2 i hie hil).rd.one
  have hd : Ct all (ll.drop i) = if 4000 < (Tu all (Ed [] ll[i])).length then none else Ct (Tu all (Ed [] ll[i])) (ll.drop (i + 1)) := by rw [List.drop_eq_getElem_cons hil, Ei]
  have ov3 : v3.oneCell' = true := (hO.rd (h := hh) (ms := [m3]) (List.Mem.head _)).rd.one
  refine Ai (Ad (Ac (Ah (Az (Qm rfl (Qm rfl (Qx (Af (i) hV.rd.any rfl underlying22 Cn rfl rfl (by omega) (by omega)) rfl (Ql rfl underlying25 (hci _) (Qc call39 rfl (WU ll[i] es0[i] hh (hn2 _ (List.getElem_mem hil)) (hE.2 i hie hil)) (fun rs h2 ms2 l2 hF => ?_))))))))))
  obtain ⟨rfl, hF⟩ := hF
  have hsl : ∀ s, Ed [] ll[i] = some s → s.length ≤ 9 := fun s e => Ih _ _ s (by simp) e
  obtain ⟨vs, s, b, rfl, hRs, hmt⟩ := Sh hF hsl
  refine Lg ms2 hh fun h3 l3 k3 => ?_
  obtain ⟨hRs, hs9⟩ := hRs
  have hRs := hRs h3 k3
  have hEs := hEs.up l3
  have ovs := hRs.rd.one
  refine Qm rfl (Qm rfl (Qm rfl (Qm rfl (Qm rfl (An ?_)))))
  obtain ⟨P, hP⟩ : ∃ P, 2 ^ s.length = P := ⟨_, rfl⟩
  have hP1 : 1 ≤ P := by rw [← hP]; exact Nat.one_le_two_pow
  have hP2 : P ≤ 512 := by rw [← hP]; exact Nat.pow_le_pow_right (n := 2) (by decide) hs9
  refine AV (fun sl h' ms' => ∃ (v3 : Value) (m3 : Hp) (es : List Value) (A : List (List Int)), sl = [(0, v), (2, .pointer (some ⟨g2, 0, none⟩)), (3, v3), (4, .int .i64 i)] ∧ h3.le h' ∧ ms' = [m3, Bf g2 29 [.slice none 0 0]] ∧ OwnL cW 1 25 m3 v3 es ∧ RdEs h' es A ∧ SrtB A ∧ A.length ≤ 4600 ∧ A = (if b then Cu all s (P - 1) else all)) ?_ (fun s h ms hI => ?_)
  ·refine Ac (Ab (Qm rfl (An (Ah ?_))))
   refine AD (fun q sl h' ms' => ∃ (n : Nat) (v3 : Value) (m3 : Hp) (es : List Value), q = P - 1 - n ∧ sl = [(0, v), (2, .pointer (some ⟨g2, 0, none⟩)), (3, v3), (4, .int .i64 i), (5, vs), (6, .bool b), (7, .int .i64 ((n : Int) + 1))] ∧ h3.le h' ∧ ms' = [m3, Bf g2 29 [.slice none 0 0]] ∧ n ≤ P - 1 ∧ OwnL cW 1 25 m3 v3 es ∧ RdEs h' es (if b then Cu all s n else all))
    (P - 1 - 0) _ ⟨0, v3, m3, es, rfl, rfl, Hp.le_refl _, rfl, by omega, hO, by cases b <;> exact hEs⟩ Qs ?_
   rintro q sl h4 ms' ⟨n, v3, m3, es, rfl, rfl, l4, rfl, hnP, hO, hEs⟩
   have hRs := hRs.up l4
   refine Ac (Az (Qm rfl (Qm rfl ?_)))
   refine C6 (t := 35) rfl (fun hb => ?_) (fun hb => ?_)
   ·refine Qg (Au rfl rfl) rfl (Qg (Au rfl rfl) rfl (Qg (AC hRs.rd.any rfl underlying25 rfl) rfl (Qg (Vj rfl rfl rfl (by omega)) rfl (Qg (C0 rfl rfl rfl) rfl (Qm rfl (An ?_))))))
    refine Ax rfl (fun hlt3 => ?_) (fun hlt3 => ?_)
    ·have hnl : n + 1 < P := by rw [hP] at hlt3; omega
     subst hb
     have hEs : RdEs h4 es (Cu all s n) := hEs
     have ov3 : v3.oneCell' = true := (hO.rd (h := h4) (ms := [m3]) (List.Mem.head _)).rd.one
     have ovs := hRs.rd.one
     have hfl := Hi all s n
     have hFs := DO hSrt s n
     refine Ai (Ad ?_)
     refine AV (fun sl h' ms' => ∃ (v3 : Value) (m3 : Hp) (es : List Value), sl = [(0, v), (2, .pointer (some ⟨g2, 0, none⟩)), (3, v3), (4, .int .i64 i), (5, vs), (6, .bool true), (7, .int .i64 ((n : Int) + 1))] ∧ h4.le h' ∧ ms' = [m3, Bf g2 29 [.slice none 0 0]] ∧ OwnL cW 1 25 m3 v3 es ∧ RdEs h' es (Cu all s (n + 1))) ?_ (fun s h ms hI => ?_)
     ·refine Ah (Az (Qm rfl (An (Bz ?_))))
      refine AV (fun sl h' ms' => ∃ (v8 : Value) (m8 : Hp), sl = [(0, v), (2, .pointer (some ⟨g2, 0, none⟩)), (3, v3), (4, .int .i64 i), (5, vs), (6, .bool true), (7, .int .i64 ((n : Int) + 1)), (8, v8)] ∧ h4 = h' ∧ ms' = [m8, m3, Bf g2 29 [.slice none 0 0]] ∧ OwnL cI 1 3 m8 v8 (DY s (n + 1) s.length)) ?_ (fun s h ms hI => ?_)
      ·refine Ac (Ab (Qm rfl (An (Ah ?_))))
       refine AD (fun q sl h' ms' => ∃ (a : Nat) (v8 : Value) (m8 : Hp), q = s.length - a ∧ sl = [(0, v), (2, .pointer (some ⟨g2, 0, none⟩)), (3, v3), (4, .int .i64 i), (5, vs), (6, .bool true), (7, .int .i64 ((n : Int) + 1)), (8, v8), (9, .int .i64 a)] ∧ h4 = h' ∧ ms' = [m8, m3, Bf g2 29 [.slice none 0 0]] ∧ a ≤ s.length ∧ OwnL cI 1 3 m8 v8 (DY s (n + 1) a))
        (s.length - 0) _ ⟨0, _, Hp.emp, rfl, rfl, rfl, rfl, by omega, OwnL.nil AT⟩ Qs ?_
       rintro q sl h' ms' ⟨a, v8, m8, rfl, rfl, rfl, rfl, ha, hO8⟩
       refine Ac (Az (Qm rfl (Qm rfl (Qx (AC hRs.rd.any rfl underlying25 rfl) rfl (Qm rfl (An ?_))))))
       refine Ax rfl (fun hla => ?_) (fun hla => ?_)
       ·have hsa : a < s.length := by omega
        have hbit : (n + 1).testBit a = decide ((n + 1) / 2 ^ a % 2 = 1) := by rw [Nat.testBit_eq_decide_div_mod_eq]
        have hsub := GF s (n + 1) a
        have hca : ∀ ms, Cell h4 ms ((AI vs).add (a * 1)) (.int .i64 s[a]) := fun ms => (hRs.any (ms := ms)).cell0 hsa rfl
        have hga : s.getD a 0 = s[a] := by simp [hsa]
        have ov8 : v8.oneCell' = true := (hO8.rd (h := h4) (ms := [m8]) (List.Mem.head _)).rd.one
        have hl8 := N0 s (n + 1) a
        refine Ai (Ad (Ac (Ah (Az (Qm rfl (Qm rfl (Qx (VD rfl (n := a) (a := n + 1) rfl rfl (by omega)) rfl ?_)))))))
        refine Qx (WG rfl rfl rfl (by have := Nat.div_le_self (n + 1) (2 ^ a); omega)) rfl ?_
        refine Qm rfl (An ?_)
        refine Ax rfl (fun hod => ?_) (fun hod => ?_)
        ·rw [hbit, decide_eq_true (by omega), if_pos rfl, hga] at hsub
         refine Ab (Qm rfl (Qm rfl (Qm rfl (Qx (Af (a) hRs.rd.any rfl underlying25 Bm rfl rfl (by omega) (by omega)) rfl (Ql rfl underlying3 (hca _) ?_)))))
         refine Ao [_] rfl underlying25 Bm rfl (by rfl) rfl rfl (by omega) rfl rfl rfl (fun g60 => ?_)
         refine AJ 1 hO8 (RdL.one AT (x := s[a]) (List.Mem.head _) rfl) rfl underlying25 Bm rfl (by omega) rfl rfl rfl BW (by (try simp only [List.length_singleton]); omega) (by (try simp only [List.length_singleton]); omega) rfl rfl rfl (fun v9 m9 hO9 => ?_)
         rw [← hsub] at hO9
         refine Qm rfl (Ak (Aj (Ad (Ab (Qm rfl (Qx (oA rfl) rfl (Qm rfl (Ak (AS ?_)))))))))
         exact Am (s.length - (a + 1)) _ (by omega) ⟨a + 1, v9, m9, rfl, rfl, rfl, rfl, by omega, hO9⟩ Qs
        ·rw [hbit, decide_eq_false (by omega), if_neg (by decide), List.append_nil] at hsub
         refine Ai (Aj (Ad (Ab (Qm rfl (Qx (oA rfl) rfl (Qm rfl (Ak ?_)))))))
         exact Am (s.length - (a + 1)) _ (by omega) ⟨a + 1, v8, m8, rfl, rfl, rfl, rfl, by omega, by rw [hsub]; exact hO8⟩ Qs
       ·obtain rfl : a = s.length := by omega
        refine Aw (Aa (Aa (Ag ?_)))
        exact Ay _ ⟨v8, m8, rfl, rfl, rfl, hO8⟩ Qs
      ·obtain ⟨v8, m8, rfl, rfl, rfl, hO8⟩ := hI
       obtain ⟨t, ht⟩ : ∃ t, DY s (n + 1) s.length = t := ⟨_, rfl⟩
       obtain ⟨A, hA⟩ : ∃ A, Cu all s n = A := ⟨_, rfl⟩
       have hfs : Cu all s (n + 1) = Iz A t := by rw [← ht, ← hA]; rfl
       rw [ht] at hO8
       rw [hA] at hfl hFs hEs
       refine BA fun h5 l5 k5 => ?_
       have hT := hO8.rdh (ms := []) k5
       have ov8 := hT.rd.one
       have hEs := hEs.up l5
       have hAe := hEs.1
       have hoe : ∀ u ∈ es, u.oneCell' = true := hEs.ones
       refine Az (Qm rfl (Qm rfl (Qx (AG rfl call40 rfl (IK fun h' hl hm => Qn A t es v3 v8 h' (by omega) (hFs.mono t) (hO.rdh (hm _ (List.Mem.head _))) (hEs.up hl) (hT.up hl) [])) rfl (Qm rfl (Qm rfl (Qm rfl (Qm rfl (Qm rfl (An ?_)))))))))
       have hcb := Hu A t
       obtain ⟨k, hk⟩ : ∃ k, Dm A t = k := ⟨_, rfl⟩
       have hp1 : (Cx A t).1 = k := hk
       rw [hp1]
       rw [hk] at hcb
       refine Az (Qm rfl (Qm rfl (An ?_)))
       refine Bu rfl (fun hth => ?_) (fun hth => ?_)
       ·have hth : (Cx A t).2 = false := by simpa using hth
        have hins : Iz A t = A.take k ++ t :: A.drop k := by unfold Iz; rw [hth, hk]; rfl
        have hcl := hO.rd (h := h5) (ms := [m3]) (List.Mem.head _)
        refine Az (Qm rfl (Ao [_] rfl underlying22 Cn rfl ((RdL.rd ‹_›).cells) rfl rfl (by omega) rfl rfl rfl (fun g71 => Qm rfl (Qm rfl (Qx (MT (k) hcl.rd rfl underlying22 Cn rfl rfl (by omega) (by omega)) rfl ?_)))))
        refine Bh 0 (OwnL.blk (g := g71) (el := 25) (F := cW) (l := [v8]) 1 Dn rfl (by decide)) ((hO.rd (h := h5) (List.Mem.tail _ (List.Mem.head _))).sub_ (by omega) (Nat.le_refl _)) rfl underlying22 Cn rfl (by omega) rfl rfl rfl (IJ fun u hu => hoe u (List.mem_of_mem_drop (List.mem_of_mem_take hu))) (by (try simp only [List.length_singleton, List.length_nil, List.length_append, List.length_take, List.length_drop, List.nil_append]); omega) (by (try simp only [List.length_singleton, List.length_nil, List.length_append, List.length_take, List.length_drop, List.nil_append]); omega) rfl rfl rfl (fun v6 m6 hO6 => ?_)
        have ov6 : v6.oneCell' = true := (hO6.rd (h := h5) (ms := [m6]) (List.Mem.head _)).rd.one
        refine Qm rfl (GZ ?_)
        refine AE [] [] [] rfl underlying22 Cn rfl (by omega) (by kernel_rfl) (by repeat (first | exact trivial | refine ⟨⟨by first | rfl | exact (hRs.rd.any).cells | exact (hcl.rd).cells | exact Rd.cells ‹_› | exact (RdL.rd ‹_›).cells, rfl, rfl⟩, ?_⟩)) rfl rfl rfl rfl (fun g76 => ?_)
        refine Qm rfl (Qm rfl (Qx (E2 (k) hcl.rd rfl underlying22 Cn rfl rfl (by omega) (by omega)) rfl ?_))
        refine Bh 0 (D0 g76 Dn) ((hO.rd (h := h5) (List.Mem.tail _ (List.Mem.tail _ (List.Mem.head _)))).sub_ (Nat.zero_le _) (by omega)) rfl underlying22 Cn rfl (by omega) rfl rfl rfl (IJ fun u hu => hoe u (List.mem_of_mem_take hu)) (by (try simp only [List.length_singleton, List.length_nil, List.length_append, List.length_take, List.length_drop, List.nil_append]); omega) (by (try simp only [List.length_singleton, List.length_nil, List.length_append, List.length_take, List.length_drop, List.nil_append]); omega) rfl rfl rfl (fun v7 m7 hO7 => ?_)
        refine Qm rfl ?_
        have hoe9 : ∀ u ∈ v8 :: (es.drop k).take (es.length - k), u.oneCell' = true := fun u hu => by
         rcases List.mem_cons.1 hu with rfl | hu
         ·exact ov8
         ·exact hoe u (List.mem_of_mem_drop (List.mem_of_mem_take hu))
        refine Bh 0 hO7 (hO6.rd (h := h5) (List.Mem.tail _ (List.Mem.head _))) rfl underlying22 Cn rfl (by omega) rfl rfl rfl (IJ hoe9) (by (try simp only [List.length_singleton, List.length_nil, List.length_append, List.length_take, List.length_drop, List.nil_append]); omega) (by (try simp only [List.length_singleton, List.length_nil, List.length_append, List.length_take, List.length_drop, List.nil_append]); omega) rfl rfl rfl (fun v9 m9 hO9 => ?_)
        have heq : [] ++ (es.drop 0).take (k - 0) ++ ([v8] ++ (es.drop k).take (es.length - k)) = es.take k ++ v8 :: es.drop k := by
         rw [List.drop_zero, Nat.sub_zero, List.take_of_length_le (l := es.drop k) (by rw [List.length_drop]; omega)]; rfl
        rw [heq] at hO9
        have ov9 : v9.oneCell' = true := (hO9.rd (h := h5) (ms := [m9]) (List.Mem.head _)).rd.one
        refine Qm rfl (Ak (Aj (Bn 1 rfl (Bn 1 rfl ?_))))
        exact Ay _ ⟨v9, m9, _, rfl, l5, rfl, hO9, by rw [hfs, hins]; exact hEs.ins hT k (by omega)⟩ Qs
       ·have hth : (Cx A t).2 = true := by simpa using hth
        have hins : Iz A t = A := by unfold Iz; rw [hth]; rfl
        refine Ai (Aj ?_)
        exact Ay _ ⟨v3, m3, es, rfl, l5, rfl, hO, by rw [hfs, hins]; exact hEs⟩ Qs
     ·obtain ⟨v3, m3, es, rfl, l5, rfl, hO, hEs⟩ := hI
      refine Ab (Qm rfl (Qx (oA rfl) rfl (Qm rfl (Ak ?_))))
      exact Am (P - 1 - (n + 1)) _ (by omega) ⟨n + 1, v3, m3, es, rfl, rfl, Hp.le_trans l4 l5, rfl, by omega, hO, hEs⟩ Qs
    ·have hnl : n = P - 1 := by rw [hP] at hlt3; omega
     subst hb
     have hEs : RdEs h4 es (Cu all s n) := hEs
     rw [hnl] at hEs
     have hfl := Hi all s (P - 1)
     refine Aw (Aa (Aa (Ag ?_)))
     exact Ay _ ⟨v3, m3, es, _, rfl, l4, rfl, hO, hEs, DO hSrt s _, by omega, rfl⟩ Qs
   ·subst hb
    have hEs : RdEs h4 es all := hEs
    refine Qk rfl (Qk rfl (Qk rfl (Qk rfl (Qk rfl (Qm rfl (An (AO rfl (Aw (Aa (Aa (Ag ?_)))))))))))
    exact Ay _ ⟨v3, m3, es, all, rfl, l4, rfl, hO, hEs, hSrt, by omega, rfl⟩ Qs
  ·obtain ⟨v3, m3, es, A, rfl, l4, rfl, hO, hEs, hSrtA, hAl, hA⟩ := hI
   have hAe := hEs.1
   have hmtA := hmt all
   rw [hP, ← hA] at hmtA
   rw [hmtA] at hd
   have ov3 : v3.oneCell' = true := (hO.rd (h := h) (ms := [m3]) (List.Mem.head _)).rd.one
   refine Az (Qm rfl (Qx (PM (hO.rd (h := h) (ms := [m3]) (List.Mem.head _)).rd rfl underlying22 rfl) rfl (Qm rfl (An ?_))))
   refine Ax rfl (fun hbig => ?_) (fun hbig => ?_)
   ·rw [if_pos (by omega)] at hd
    refine Bz (Az ?_)
    refine Qx (A6 Po [.slice none 0 0] [] [_] rfl Bi rfl rfl (by repeat (first | exact trivial | refine ⟨⟨rfl, rfl, rfl⟩, ?_⟩ | refine ⟨⟨((hO.rd (h := h) (ms := [m3]) (List.Mem.head _)).rd).cells, rfl, rfl⟩, ?_⟩)) rfl) rfl ?_
    refine Sa 2 [_] Bi rfl (by simp [Value.oneCell']) ?_
    refine An (Aq (Al (Ae (Ae (Al (Ae (Bn 1 rfl ?_)))))))
    exact C7 (vs := [_]) 1 rfl rfl underlying29 rfl Bi rfl rfl (⟨Hp.le_trans lh (Hp.le_trans l2 (Hp.le_trans l3 l4)), Hp.emp, [], _, rfl, rfl, OwnL.nil BP, by unfold Dw; rw [he, hd]; rfl, fun a ha => nomatch ha⟩)
   ·rw [if_neg (by omega)] at hd
    refine Ai (Aj (Ad (Ab (Qm rfl (Qx (oA rfl) rfl (Qm rfl (Ak ?_)))))))
    exact Am (ll.length - (i + 1)) _ (by omega) ⟨i + 1, v3, m3, es, A, rfl, rfl, Hp.le_trans lh (Hp.le_trans l2 (Hp.le_trans l3 l4)), rfl, by omega, hO, hEs, hSrtA, by omega, by rw [he, hd]⟩ Qs
 ·obtain rfl : i = ll.length := by omega
  have he : Ct [] ll = some all := by rw [he, List.drop_length]; rfl
  have h9 := Ef ll [] all List.Pairwise.nil (fun t ht => nomatch ht) he
  have hsF : Dw ll = (List.range all.length).map (Dh all) := by unfold Dw; rw [he]
  have hAe := hEs.1
  refine BA fun h2 l2 k2 => ?_
  have hR3 := hO.rdh (ms := []) k2
  have hEs := hEs.up l2
  have ov3 : v3.oneCell' = true := hR3.rd.one
  refine Aw (Aa (Aa (Ag (Ad (Az (C4 [.slice none 0 0] rfl Bi rfl rfl (fun g13 => An (Bz (Ac (Az (Qm rfl (An (Ah ?_)))))))))))))
  refine AD (fun q sl h' ms' => ∃ (j : Nat) (vA : Value) (mA : Hp) (A : List Ce), q = all.length - j ∧ sl = [(0, v), (2, .pointer (some ⟨g2, 0, none⟩)), (3, v3), (13, .pointer (some ⟨g13, 0, none⟩)), (14, .int .i64 j)] ∧ h2.le h' ∧ ms' = [mA, Bf g13 29 [vA], Bf g2 29 [.slice none 0 0]] ∧ j ≤ all.length ∧ OwnL cC 3 59 mA vA A ∧ A.map Ce.c = (List.range j).map (Dh all) ∧ ∀ a ∈ A, RdL cD 2 h' [] a.v a.c.sd)
   (all.length - 0) _ ⟨0, _, Hp.emp, [], rfl, rfl, Hp.le_refl _, rfl, by omega, OwnL.nil BP, rfl, fun a ha => nomatch ha⟩ Qs ?_
  rintro q sl h4 ms' ⟨j, vA, mA, A, rfl, rfl, l4, rfl, hj, hOA, hA, hSd⟩
  have hR3 := hR3.up l4
  have hEs := hEs.up l4
  refine Ac (Az (Qm rfl (Qm rfl (Qx (AC hR3.rd.any rfl underlying22 rfl) rfl (Qm rfl (An ?_))))))
  refine Ax rfl (fun hjl => ?_) (fun hjl => ?_)
  ·have hjl : j < all.length := by omega
   have hje : j < es.length := by omega
   obtain ⟨S, hS⟩ : ∃ S, all[j] = S := ⟨_, rfl⟩
   have hS9 : S.length ≤ 9 := by rw [← hS]; exact h9 _ (List.getElem_mem hjl)
   have hRS : RdL cI 1 h4 [] es[j] S := by rw [← hS]; exact hEs.2 j hje hjl
   have hcj : ∀ ms, Cell h4 ms ((AI v3).add (j * 1)) es[j] := fun ms => (hR3.any (ms := ms)).cell0 hje rfl
   have ovS := hRS.rd.one
   have ovA : vA.oneCell' = true := (hOA.rd (h := h4) (ms := [mA]) (List.Mem.head _)).rd.one
   have hgd : all.getD j [] = S := by simp [hjl, hS]
   refine Ai (Ad (Ac (Ah (Az (Qm rfl (Qx (oA rfl) rfl (Qm rfl (Qm rfl (Qx (Af (j) hR3.rd.any rfl underlying22 Cn rfl rfl (by omega) (by omega)) rfl (Ql rfl underlying25 (hcj _) (Qx (AC hRS.rd.any rfl underlying25 rfl) rfl (Qx (oS rfl) rfl ?_))))))))))))
   refine Qx (A6 KE [.int .i64 0, .int .i64 0, .slice none 0 0] [(0, _), (1, _)] [_, _, _] rfl AH rfl rfl (by repeat (first | exact trivial | refine ⟨⟨rfl, rfl, rfl⟩, ?_⟩ | refine ⟨⟨((hO.rd (h := h) (ms := [m3]) (List.Mem.head _)).rd).cells, rfl, rfl⟩, ?_⟩)) rfl) rfl ?_
   refine C4 [.int .i64 0, .int .i64 0, .slice none 0 0] rfl AH rfl rfl (fun g15 => ?_)
   refine Sa 0 [_, _, _] AH rfl (by simp [Value.oneCell']) ?_
   refine An (Bz ?_)
   obtain ⟨D, hD⟩ : ∃ D : Int, (S.length : Int) - 1 = D := ⟨_, rfl⟩
   rw [hD]
   refine AV (fun sl h' ms' => ∃ (vS : Value) (mS : Hp), sl = [(0, v), (2, .pointer (some ⟨g2, 0, none⟩)), (3, v3), (13, .pointer (some ⟨g13, 0, none⟩)), (14, .int .i64 j), (15, .pointer (some ⟨g15, 0, none⟩))] ∧ h4 = h' ∧ ms' = [mS, Bf g15 59 [.int .i64 ((j : Int) + 1), .int .i64 D, vS], mA, Bf g13 29 [vA], Bf g2 29 [.slice none 0 0]] ∧ OwnL cD 2 81 mS vS (if S.length ≤ 1 then [] else Nj all S S.length)) ?_ (fun s h ms hI => ?_)
   ·refine Ac (Ab (Qm rfl (An (Ah ?_))))
    refine AD (fun q sl h' ms' => ∃ (k : Nat) (vS : Value) (mS : Hp), q = S.length - k ∧ sl = [(0, v), (2, .pointer (some ⟨g2, 0, none⟩)), (3, v3), (13, .pointer (some ⟨g13, 0, none⟩)), (14, .int .i64 j), (15, .pointer (some ⟨g15, 0, none⟩)), (16, .int .i64 k)] ∧ h4 = h' ∧ ms' = [mS, Bf g15 59 [.int .i64 ((j : Int) + 1), .int .i64 D, vS], mA, Bf g13 29 [vA], Bf g2 29 [.slice none 0 0]] ∧ k ≤ S.length ∧ (S.length ≤ 1 → k = 0) ∧ OwnL cD 2 81 mS vS (Nj all S k))
     (S.length - 0) _ ⟨0, _, Hp.emp, rfl, rfl, rfl, rfl, by omega, fun _ => rfl, OwnL.nil Cj⟩ Qs ?_
    rintro q sl h' ms' ⟨k, vS, mS, rfl, rfl, rfl, rfl, hk, hk0, hOS⟩
    refine Ac (Az (Qm rfl (Qm rfl (Qm rfl (Qx (Af (j) hR3.rd.any rfl underlying22 Cn rfl rfl (by omega) (by omega)) rfl (Ql rfl underlying25 (hcj _) (Qx (AC hRS.rd.any rfl underlying25 rfl) rfl (Qm rfl (Qm rfl ?_)))))))))
    refine AQ (t := 109) rfl (fun hk1 => ?_) (fun hk1 => ?_)
    ·have hkS : k < S.length := by omega
     refine Qg (oF BC rfl) rfl (Qg (oL rfl underlying3 (Cell.blk 1 rfl rfl)) rfl (Qg (BY rfl rfl rfl) rfl (Qm rfl (An ?_))))
     refine Ax rfl (fun hdp => ?_) (fun hdp => ?_)
     ·have hD1 : 1 ≤ D := by omega
      have ovS2 : vS.oneCell' = true := (hOS.rd (h := h4) (ms := [mS]) (List.Mem.head _)).rd.one
      refine Ai (Ad (Ac (Ah (Ac (B4 (n := 17) (bs := [false, true, true, true, true, true, true, false, true, true, true, true, true, true, true, false, false]) [false, true, true, true, true, true, true, false, true, true, true, true, true, true, true] CN (by kernel_rfl) (by kernel_rfl) rfl rfl (Qq rfl (Qq rfl (Qp rfl (Af (j) hR3.rd.any rfl underlying22 Cn rfl rfl (by omega) (by omega)) (QL rfl underlying25 (hcj _) (Qq rfl (Qp rfl (I9 (k) hRS.rd.any rfl underlying25 Bm rfl rfl (by omega) (by omega)) (Qq rfl (Qq rfl (Qp rfl (Af (j) hR3.rd.any rfl underlying22 Cn rfl rfl (by omega) (by omega)) (QL rfl underlying25 (hcj _) (Qq rfl (Qp rfl (oA rfl) (Qp rfl (Du (k + 1) hRS.rd.any rfl underlying25 Bm rfl rfl (by omega) (by omega)) ?_))))))))))))))))))
      unfold GI
      simp only [List.cons_append, List.nil_append]
      refine Qo 0 rfl ?_
      refine AE [] [] [] rfl underlying25 Bm rfl (by omega) (by kernel_rfl) (by repeat (first | exact trivial | refine ⟨⟨by first | rfl | exact (hR3.rd.any).cells | exact (hRS.rd.any).cells | exact ((hO.rd (h := h) (ms := [m3]) (List.Mem.head _)).rd).cells | exact Rd.cells ‹_› | exact (RdL.rd ‹_›).cells, rfl, rfl⟩, ?_⟩)) rfl rfl rfl rfl (fun g116 => ?_)
      refine Qw (Qo 7 rfl ?_)
      refine AJ 0 (D0 g116 AT) (hRS.any.sub_ (Nat.zero_le _) hk) rfl underlying25 Bm rfl (by omega) rfl rfl rfl BW (by (try simp only [List.length_singleton, List.length_nil, List.length_append, List.length_take, List.length_drop, List.nil_append]); omega) (by (try simp only [List.length_singleton, List.length_nil, List.length_append, List.length_take, List.length_drop, List.nil_append]); omega) rfl rfl rfl (fun v6 m6 hO6 => ?_)
      refine Qw (Qo 15 rfl ?_)
      refine AJ 0 hO6 (hRS.any.sub_ hkS (Nat.le_refl _)) rfl underlying25 Bm rfl (by omega) rfl rfl rfl BW (by (try simp only [List.length_singleton, List.length_nil, List.length_append, List.length_take, List.length_drop, List.nil_append]); omega) (by (try simp only [List.length_singleton, List.length_nil, List.length_append, List.length_take, List.length_drop, List.nil_append]); omega) rfl rfl rfl (fun v7 m7 hO7 => ?_)
      refine Qw (Qo 16 rfl (Qm rfl (Qw (Qe ?_))))
      have heq : [] ++ (S.drop 0).take (k - 0) ++ (S.drop (k + 1)).take (S.length - (k + 1)) = S.eraseIdx k := by
       rw [List.drop_zero, Nat.sub_zero, List.take_of_length_le (l := S.drop (k + 1)) (by rw [List.length_drop]; exact Nat.le_refl _), List.eraseIdx_eq_take_drop_succ]; rfl
      rw [heq] at hO7
      refine Ad ?_
      have ov7 : v7.oneCell' = true := (hO7.rd (h := h4) (ms := [m7]) (List.Mem.head _)).rd.one
      refine Az (Qm rfl (Qm rfl (Qx (AG rfl call40 rfl (IK fun h' hl hm => Qn all (S.eraseIdx k) es v3 v7 h' (by omega) (hSrt.mono _) (hR3.up hl) (hEs.up hl) (hO7.rdh (hm _ (List.Mem.head _))) [])) rfl (Qm rfl (Qm rfl (Qm rfl (Qm rfl (Qm rfl (An (Jh ?_))))))))))
      obtain ⟨n, hn⟩ : ∃ n, (Cx all (S.eraseIdx k)).1 = n := ⟨_, rfl⟩
      have hnl : n ≤ all.length := by rw [← hn]; exact Hu _ _
      have hrs := RI all S k
      rw [hn] at hrs ⊢
      have hrl := Ht all S k
      refine Ab (Qf Bl rfl (Ql rfl underlying57 (Cell.blk 1 rfl rfl) (Qm rfl (Qx (oA rfl) rfl (Qm rfl (Qx (B5 rfl rfl rfl (by omega) (by omega)) rfl (Qx (oM rfl) rfl (Qx (oS rfl) rfl ?_))))))))
      refine Qx (A6 Ou [.int .i64 0, .int .i64 0] [(0, _), (1, _)] [_, _] rfl AR rfl rfl (by repeat (first | exact trivial | refine ⟨⟨rfl, rfl, rfl⟩, ?_⟩ | refine ⟨⟨((hO.rd (h := h) (ms := [m3]) (List.Mem.head _)).rd).cells, rfl, rfl⟩, ?_⟩)) rfl) rfl ?_
      refine Ao [_, _] rfl underlying57 AR rfl (by rfl) rfl rfl (by omega) rfl rfl rfl (fun g147 => ?_)
      refine AJ 1 hOS (RdL.one Cj (x := ((n : Int) + 1, 1 - 2 * ((k : Int) % 2))) (List.Mem.head _) rfl) rfl underlying57 AR rfl (by omega) rfl rfl rfl Do (by rw [Ht]; (try simp only [List.length_singleton]); omega) (by rw [Ht]; (try simp only [List.length_singleton]); omega) rfl rfl rfl (fun v9 m9 hO9 => ?_)
      rw [← hrs] at hO9
      have ov9 : v9.oneCell' = true := (hO9.rd (h := h4) (ms := [m9]) (List.Mem.head _)).rd.one
      refine Qf Bl rfl ?_
      refine AK 2 _ rfl NW rfl rfl (by assumption) rfl rfl (by (simp; done)) rfl rfl ?_
      refine Ak (Aj (Ad (Ab (Qm rfl (Qx (oA rfl) rfl (Qm rfl (Ak (Bn 0 rfl ?_))))))))
      exact Am (S.length - (k + 1)) _ (by omega) ⟨k + 1, v9, m9, rfl, rfl, rfl, rfl, by omega, fun q => by omega, hO9⟩ Qs
     ·have hS1 : S.length ≤ 1 := by omega
      refine Aw (Aa (Aa (Ag ?_)))
      exact Ay _ ⟨vS, mS, rfl, rfl, rfl, by rw [if_pos hS1]; have := hk0 hS1; subst this; exact hOS⟩ Qs
    ·have hkS : k = S.length := by omega
     subst hkS
     refine Qk rfl (Qk rfl (Qk rfl (Qm rfl (An (AO rfl (Aw (Aa (Aa (Ag ?_)))))))))
     exact Ay _ ⟨vS, mS, rfl, rfl, rfl, by
      split
      ·rename_i h1; have := hk0 h1; rw [this] at hOS; exact hOS
      ·exact hOS⟩ Qs
   ·obtain ⟨vS, mS, rfl, rfl, rfl, hOS⟩ := hI
    obtain ⟨rw, hrw⟩ : ∃ rw, (if S.length ≤ 1 then [] else Nj all S S.length) = rw := ⟨_, rfl⟩
    have hrl : rw.length ≤ 9 := by
     rw [← hrw]; split
     ·simp
     ·rw [Ht]; exact hS9
    rw [hrw] at hOS
    have hcell : Dh all j = ⟨(j : Int) + 1, D, Cp rw⟩ := by
     unfold Dh
     rw [hgd, hD, ← hrw]
     split <;> rfl
    refine BA fun h5 l5 k5 => ?_
    have hRw := hOS.rdh (ms := []) k5
    have ovS2 := hRw.rd.one
    refine Az (Qf Bl rfl (Ql rfl underlying57 (Cell.blk 0 rfl rfl) (Qc call41 rfl (NV rw vS h5 (by omega) hRw) (fun rs h6 ms2 l6 hF => ?_))))
    obtain ⟨rfl, m9, rfl, hO9⟩ := hF
    refine AN fun h6 l6 k6 => ?_
    have hR9 := hO9.rdh (ms := []) k6
    have ov9 := hR9.rd.one
    have hAl : A.length = j := by have := congrArg List.length hA; simpa using this
    let ce : Ce := ⟨⟨(j : Int) + 1, D, Cp rw⟩, rs⟩
    refine Qf Bl rfl ?_
    refine AK 0 _ rfl NW rfl rfl (by assumption) rfl rfl (by (simp; done)) rfl rfl ?_
    refine GZ (Qf BX rfl (Ql rfl underlying27 (Cell.blk 2 rfl rfl) (Qx (oG rfl underlying59 AH (Seg.blk 0 rfl)) rfl ?_)))
    refine Ao [_, _, _] rfl underlying27 AH rfl (by rfl) rfl rfl (by omega) rfl rfl rfl (fun g157 => ?_)
    refine Bh 2 hOA (RdL.one BP (x := ce) (List.Mem.head _) rfl) rfl underlying27 AH rfl (by omega) rfl rfl rfl (Db (l := [ce]) (h := h6) fun y hy => by rw [List.mem_singleton.1 hy]; exact hR9) (by (try simp only [List.length_singleton]); omega) (by (try simp only [List.length_singleton]); omega) rfl rfl rfl (fun vA2 mA2 hOA2 => ?_)
    have ovA2 : vA2.oneCell' = true := (hOA2.rd (h := h6) (ms := [mA2]) (List.Mem.head _)).rd.one
    refine Qf BX rfl ?_
    refine AK 3 _ rfl KL rfl rfl (by assumption) rfl rfl (by (simp; done)) rfl rfl ?_
    refine Ak (Aj (Ad (Ab (Qm rfl (Qx (oA rfl) rfl (Qm rfl (Ak (Bn 0 rfl (Bn 0 rfl ?_)))))))))
    exact Am (all.length - (j + 1)) _ (by omega) ⟨j + 1, vA2, mA2, A ++ [ce], rfl, rfl, Hp.le_trans l4 (Hp.le_trans l5 l6), rfl, by omega, hOA2, by rw [List.map_append, hA, List.range_succ, List.map_append]; congr 1; simp [ce, hcell], fun a ha => by
     rcases List.mem_append.1 ha with h | h
     ·exact (hSd a h).up (Hp.le_trans l5 l6)
     ·rw [List.mem_singleton.1 h]; exact hR9⟩ Qs
  ·obtain rfl : j = all.length := by omega
   have ovA : vA.oneCell' = true := (hOA.rd (h := h4) (ms := [mA]) (List.Mem.head _)).rd.one
   refine Aw (Aa (Aa (Ag (Ad (Az (Qx (oG rfl underlying29 Bi (Seg.blk 1 rfl)) rfl ?_))))))
   refine Sa 2 [_] Bi rfl (by simp [o1, ov3, ovA]) ?_
   refine An (Aq (Bn 1 rfl ?_))
   exact C7 (vs := [_]) 1 rfl rfl underlying29 rfl Bi rfl rfl (⟨Hp.le_trans lh (Hp.le_trans l2 l4), mA, A, _, rfl, rfl, hOA, by rw [hA, hsF], hSd⟩)
end Go.Proofs.YtodheebhahdepaaGreat

namespace Go.Proofs.YtodheebhahdepaaGreat
open Go.Proofs.Tryz
open Go.Eng Go.RowKit
def DH (ll : List (List Int)) : List (List Int) := (ll.take 5).map fun s => (s.take 4).map fun x => x % 7
theorem RdEs.snoc {h : Hp} {es : List Value} {ll : List (List Int)} (H : RdEs h es ll) {v : Value} {t : List Int} (hv : RdL cI 1 h [] v t) : RdEs h (es ++ [v]) (ll ++ [t]) := by
 have := H.ins hv ll.length (Nat.le_refl _)
 rw [List.take_of_length_le (by rw [H.1]; exact Nat.le_refl _), List.take_length, List.drop_of_length_le (by rw [H.1]; exact Nat.le_refl _), List.drop_length] at this
 exact this
theorem QR (ll : List (List Int)) (es0 : List Value) (v : Value) (h : Hp) (hi : ∀ l ∈ ll, ∀ x ∈ l, Bq x) (hV : RdL cW 1 h [] v es0) (hE : RdEs h es0 ll) : FnT Tryz.prog 16 #[v] h [] (fun r h' ms' => h.le h' ∧ ∃ m es, ms' = [m] ∧ OwnL cW 1 25 m r es ∧ RdEs h' es (DH ll)) := by
 have o1 := hV.rd.one
 have hle := hE.1
 have hl63 := hV.len_le
 refine Av func16 ntmps16 rfl rfl (fun w0 hw0 => ?_)
 simp only [A5]
 refine Az (Qm rfl (BG (Qm rfl (An (Ac (Az (Qm rfl (An (Ah (Bz ?_))))))))))
 refine AD (fun q s hh ms' => ∃ (i : Nat) (v3 : Value) (m3 : Hp) (es : List Value), q = ll.length - i ∧ s = [(0, v), (3, v3), (4, .int .i64 i)] ∧ h.le hh ∧ ms' = [m3] ∧ i ≤ ll.length ∧ i ≤ 5 ∧ OwnL cW 1 25 m3 v3 es ∧ RdEs hh es (DH (ll.take i)))
  (ll.length - 0) _ ⟨0, _, Hp.emp, [], rfl, rfl, Hp.le_refl _, rfl, by omega, by omega, OwnL.nil Dn, RdEs.nil _⟩ Qs ?_
 rintro q s hh ms' ⟨i, v3, m3, es, rfl, rfl, lh, rfl, hil, hi5, hO, hEs⟩
 have hV := hV.up lh
 have hE := hE.up lh
 have hes := hEs.1
 have hsl : (DH (ll.take i)).length = i := by simp [DH]; omega
 have ov3 : v3.oneCell' = true := (hO.rd (h := hh) (ms := [m3]) (List.Mem.head _)).rd.one
 refine Ac (Az (Qm rfl (Qm rfl (Qx (AC hV.rd.any rfl underlying22 rfl) rfl (Qm rfl (Qm rfl ?_))))))
 refine AQ (t := 11) rfl (fun hlt => ?_) (fun hlt => ?_)
 ·refine Qg (Au rfl rfl) rfl (Qg (C0 rfl rfl rfl) rfl (Qm rfl (An ?_)))
  refine Ax rfl (fun h5 => ?_) (fun h5 => ?_)
  ·have hi1 : i < ll.length := by omega
   have hie : i < es0.length := by omega
   obtain ⟨s, hs⟩ : ∃ s, ll[i] = s := ⟨_, rfl⟩
   have hRs : RdL cI 1 hh [] es0[i] s := by rw [← hs]; exact hE.2 i hie hi1
   have hsi : ∀ x ∈ s, Bq x := hi s (by rw [← hs]; exact List.getElem_mem hi1)
   have hci : ∀ ms, Cell hh ms ((AI v).add (i * 1)) es0[i] := fun ms => (hV.any (ms := ms)).cell0 hie rfl
   have ovs := hRs.rd.one
   have hs63 := hRs.len_le
   refine Ai (Ad (Ac (Ah (Az (Qm rfl (An (Bz ?_)))))))
   refine AV (fun sl h' ms' => ∃ (v5 : Value) (m5 : Hp), sl = [(0, v), (3, v3), (4, .int .i64 i), (5, v5)] ∧ hh = h' ∧ ms' = [m5, m3] ∧ OwnL cI 1 3 m5 v5 ((s.take 4).map fun x => x % 7)) ?_ (fun s h ms hI => ?_)
   ·refine Ac (Ab (Qm rfl (An (Ah ?_))))
    refine AD (fun q sl h' ms' => ∃ (k : Nat) (v5 : Value) (m5 : Hp), q = s.length - k ∧ sl = [(0, v), (3, v3), (4, .int .i64 i), (5, v5), (6, .int .i64 k)] ∧ hh = h' ∧ ms' = [m5, m3] ∧ k ≤ s.length ∧ k ≤ 4 ∧ OwnL cI 1 3 m5 v5 ((s.take k).map fun x => x % 7))
     (s.length - 0) _ ⟨0, _, Hp.emp, rfl, rfl, rfl, rfl, by omega, by omega, OwnL.nil AT⟩ Qs ?_
    rintro q sl h' ms' ⟨k, v5, m5, rfl, rfl, rfl, rfl, hk, hk4, hO5⟩
    have ov5 : v5.oneCell' = true := (hO5.rd (h := hh) (ms := [m5]) (List.Mem.head _)).rd.one
    have hkl : ((s.take k).map fun x => x % 7).length = k := by simp; omega
    refine Ac (Az (Qm rfl (Qm rfl (Qm rfl (Qx (Af (i) hV.rd.any rfl underlying22 Cn rfl rfl (by omega) (by omega)) rfl (Ql rfl underlying25 (hci _) (Qx (AC hRs.rd.any rfl underlying25 rfl) rfl (Qm rfl (Qm rfl ?_)))))))))
    refine AQ (t := 24) rfl (fun hks => ?_) (fun hks => ?_)
    ·refine Qg (Au rfl rfl) rfl (Qg (C0 rfl rfl rfl) rfl (Qm rfl (An ?_)))
     refine Ax rfl (fun hk5 => ?_) (fun hk5 => ?_)
     ·have hks1 : k < s.length := by omega
      have hck : ∀ ms, Cell hh ms ((AI es0[i]).add (k * 1)) (.int .i64 s[k]) := fun ms => (hRs.any (ms := ms)).cell0 hks1 rfl
      refine Ai (Ad (Ac (Ah (Ab (Qm rfl (Qm rfl (Qm rfl (Qx (Af (i) hV.rd.any rfl underlying22 Cn rfl rfl (by omega) (by omega)) rfl (Ql rfl underlying25 (hci _) (Qm rfl (Qx (Af (k) hRs.rd.any rfl underlying25 Bm rfl rfl (by omega) (by omega)) rfl (Ql rfl underlying3 (hck _) (Qx (AG rfl call14 rfl (Eg s[k] 7 (hsi _ (List.getElem_mem hks1)) (by omega) _ _)) rfl ?_)))))))))))))
      refine Ao [_] rfl underlying25 Bm rfl (by rfl) rfl rfl (by omega) rfl rfl rfl (fun g39 => ?_)
      refine AJ 1 hO5 (RdL.one AT (x := s[k] % 7) (List.Mem.head _) rfl) rfl underlying25 Bm rfl (by omega) rfl rfl rfl BW (by (try simp only [List.length_singleton]); omega) (by (try simp only [List.length_singleton]); omega) rfl rfl rfl (fun v6 m6 hO6 => ?_)
      have htk : ((s.take k).map fun x => x % 7) ++ [s[k] % 7] = (s.take (k + 1)).map fun x => x % 7 := by rw [List.take_succ_eq_append_getElem hks1, List.map_append]; rfl
      rw [htk] at hO6
      have ov6 : v6.oneCell' = true := (hO6.rd (h := hh) (ms := [m6]) (List.Mem.head _)).rd.one
      refine Qm rfl (Ak (Aj (Ad (Ab (Qm rfl (Qx (oA rfl) rfl (Qm rfl (Ak (Bn 0 rfl ?_)))))))))
      exact Am (s.length - (k + 1)) _ (by omega) ⟨k + 1, v6, m6, rfl, rfl, rfl, rfl, by omega, by omega, hO6⟩ Qs
     ·obtain rfl : k = 4 := by omega
      refine Aw (Aa (Aa (Ag ?_)))
      exact Ay _ ⟨v5, m5, rfl, rfl, rfl, hO5⟩ Qs
    ·obtain rfl : k = s.length := by omega
     refine Qk rfl (Qk rfl (Qm rfl (An (AO rfl (Aw (Aa (Aa (Ag ?_))))))))
     exact Ay _ ⟨v5, m5, rfl, rfl, rfl, by rw [List.take_of_length_le (i := 4) (by omega)]; rw [List.take_length] at hO5; exact hO5⟩ Qs
   ·obtain ⟨v5, m5, rfl, rfl, rfl, hO5⟩ := hI
    refine BA fun h2 l2 k2 => ?_
    have hR5 := hO5.rdh (ms := []) k2
    have ov5 := hR5.rd.one
    refine Ab (Qm rfl (Qm rfl (Ao [_] rfl underlying22 Cn rfl ((RdL.rd ‹_›).cells) rfl rfl (by omega) rfl rfl rfl (fun g43 => ?_))))
    refine Bh 1 hO (RdL.one Dn (x := v5) (List.Mem.head _) rfl) rfl underlying22 Cn rfl (by omega) rfl rfl rfl (IJ fun u hu => by rw [List.mem_singleton.1 hu]; exact ov5) (by (try simp only [List.length_singleton]); omega) (by (try simp only [List.length_singleton]); omega) rfl rfl rfl (fun v6 m6 hO6 => ?_)
    have ov6 : v6.oneCell' = true := (hO6.rd (h := h2) (ms := [m6]) (List.Mem.head _)).rd.one
    have hst : DH (ll.take (i + 1)) = DH (ll.take i) ++ [(s.take 4).map fun x => x % 7] := by
     unfold DH
     rw [List.take_take, List.take_take, Nat.min_eq_right (by omega), Nat.min_eq_right (by omega), List.take_succ_eq_append_getElem hi1, List.map_append, hs]; rfl
    refine Qm rfl (Ak (Aj (Ad (Ab (Qm rfl (Qx (oA rfl) rfl (Qm rfl (Ak (Bn 0 rfl ?_)))))))))
    exact Am (ll.length - (i + 1)) _ (by omega) ⟨i + 1, v6, m6, _, rfl, rfl, Hp.le_trans lh l2, rfl, by omega, by omega, hO6, by rw [hst]; exact (hEs.up l2).snoc hR5⟩ Qs
  ·obtain rfl : i = 5 := by omega
   have hs5 : DH (ll.take 5) = DH ll := by unfold DH; rw [List.take_take, Nat.min_self]
   rw [hs5] at hEs
   refine Aw (Aa (Aa (Ag (Ad (Az (Qm rfl (Qm rfl (An (Aq ?_)))))))))
   exact As rfl rfl (⟨lh, m3, es, rfl, hO, hEs⟩)
 ·obtain rfl : i = ll.length := by omega
  rw [List.take_length] at hEs
  refine Qk rfl (Qk rfl (Qm rfl (An (AO rfl (Aw (Aa (Aa (Ag (Ad (Az (Qm rfl (Qm rfl (An (Aq ?_))))))))))))))
  exact As rfl rfl (⟨lh, m3, es, rfl, hO, hEs⟩)
def Xn : List (List Int) := [[0, 1, 2], [0, 1, 3], [0, 2, 3], [1, 2, 3]]
def X4 : List (List Int) := [[0, 1, 2], [0, 2, 3], [0, 3, 4], [0, 4, 5], [0, 1, 5], [1, 2, 4], [2, 3, 5], [1, 3, 4], [2, 4, 5], [1, 3, 5]]
def Lu (n : Nat) : List (List Int) := (List.range n).flatMap fun (i : Nat) => [[(i : Int), ((i : Int) + 1) % 7, ((i : Int) + 3) % 7], [(i : Int), ((i : Int) + 2) % 7, ((i : Int) + 3) % 7]]
def EB (n : Int) : List (List Int) := if n % 3 = 0 then Xn else if n % 3 = 1 then X4 else Lu 7
theorem JU (n : Nat) : Lu (n + 1) = Lu n ++ [[(n : Int), ((n : Int) + 1) % 7, ((n : Int) + 3) % 7]] ++ [[(n : Int), ((n : Int) + 2) % 7, ((n : Int) + 3) % 7]] := by
 unfold Lu
 rw [List.range_succ, List.flatMap_append, List.append_assoc]; rfl
theorem Rx (n : Nat) : (Lu n).length = 2 * n := by
 induction n with
 | zero => rfl
 | succ n ih => rw [JU, List.length_append, List.length_append, ih]; simp; omega
theorem Kp (n : Int) (h : Hp) (hi : Bq n) : FnT Tryz.prog 17 #[.int .i64 n] h [] (fun r h' ms' => h.le h' ∧ ∃ m es, ms' = [m] ∧ OwnL cW 1 25 m r es ∧ RdEs h' es (EB n)) := by
 refine Av func17 ntmps17 rfl rfl (fun w0 hw0 => ?_)
 simp only [A5]
 refine Az (Qm rfl (An (Ac (Az (Qm rfl (Qx (AG rfl call14 rfl (Eg n 3 hi (by omega) _ _)) rfl (An (Ah (Az (Qm rfl (Qm rfl (An ?_))))))))))))
 refine Ax rfl (fun hn1 => ?_) (fun hn1 => ?_)
 ·have hE := RdEs.nil h
  refine Az (AE [(0, _), (1, _), (2, _)] [.int .i64 0, .int .i64 0, .int .i64 0] [_, _, _] rfl underlying25 Bm rfl (by omega) (by kernel_rfl) Qt rfl rfl rfl rfl (fun g9 => AN fun h1 l1 k1 => ?_))
  have hE := (hE.up l1).snoc ((OwnL.blk (g := g9) (el := 3) (F := cI) (l := [0, 1, 2]) 3 AT rfl (by decide)).rdh (h := h1) (ms := []) k1)
  refine AE [(0, _), (1, _), (2, _)] [.int .i64 0, .int .i64 0, .int .i64 0] [_, _, _] rfl underlying25 Bm rfl (by omega) (by kernel_rfl) Qt rfl rfl rfl rfl (fun g10 => AN fun h2 l2 k2 => ?_)
  have hE := (hE.up l2).snoc ((OwnL.blk (g := g10) (el := 3) (F := cI) (l := [0, 1, 3]) 3 AT rfl (by decide)).rdh (h := h2) (ms := []) k2)
  refine AE [(0, _), (1, _), (2, _)] [.int .i64 0, .int .i64 0, .int .i64 0] [_, _, _] rfl underlying25 Bm rfl (by omega) (by kernel_rfl) Qt rfl rfl rfl rfl (fun g11 => AN fun h3 l3 k3 => ?_)
  have hE := (hE.up l3).snoc ((OwnL.blk (g := g11) (el := 3) (F := cI) (l := [0, 2, 3]) 3 AT rfl (by decide)).rdh (h := h3) (ms := []) k3)
  refine AE [(0, _), (1, _), (2, _)] [.int .i64 0, .int .i64 0, .int .i64 0] [_, _, _] rfl underlying25 Bm rfl (by omega) (by kernel_rfl) Qt rfl rfl rfl rfl (fun g12 => AN fun h4 l4 k4 => ?_)
  have hE := (hE.up l4).snoc ((OwnL.blk (g := g12) (el := 3) (F := cI) (l := [1, 2, 3]) 3 AT rfl (by decide)).rdh (h := h4) (ms := []) k4)
  refine AE [(0, _), (1, _), (2, _), (3, _)] [.slice none 0 0, .slice none 0 0, .slice none 0 0, .slice none 0 0] [_, _, _, _] rfl underlying22 Cn rfl (by omega) (by kernel_rfl) Qt rfl rfl rfl rfl (fun g13 => Qm rfl (An (Aq (Al (Ae ?_)))))
  exact As rfl rfl (⟨(Hp.le_trans (Hp.le_trans (Hp.le_trans l1 l2) l3) l4), _, [_, _, _, _], rfl, OwnL.blk (F := cW) (l := [_, _, _, _]) 4 Dn rfl (by decide), by unfold EB; rw [if_pos hn1]; exact hE⟩)
 ·refine Ac (Ab (Qm rfl (Qm rfl (An ?_))))
  refine Ax rfl (fun hn2 => ?_) (fun hn2 => ?_)
  ·have hE := RdEs.nil h
   refine Az (AE [(0, _), (1, _), (2, _)] [.int .i64 0, .int .i64 0, .int .i64 0] [_, _, _] rfl underlying25 Bm rfl (by omega) (by kernel_rfl) Qt rfl rfl rfl rfl (fun g16 => AN fun h1 l1 k1 => ?_))
   have hE := (hE.up l1).snoc ((OwnL.blk (g := g16) (el := 3) (F := cI) (l := [0, 1, 2]) 3 AT rfl (by decide)).rdh (h := h1) (ms := []) k1)
   refine AE [(0, _), (1, _), (2, _)] [.int .i64 0, .int .i64 0, .int .i64 0] [_, _, _] rfl underlying25 Bm rfl (by omega) (by kernel_rfl) Qt rfl rfl rfl rfl (fun g17 => AN fun h2 l2 k2 => ?_)
   have hE := (hE.up l2).snoc ((OwnL.blk (g := g17) (el := 3) (F := cI) (l := [0, 2, 3]) 3 AT rfl (by decide)).rdh (h := h2) (ms := []) k2)
   refine AE [(0, _), (1, _), (2, _)] [.int .i64 0, .int .i64 0, .int .i64 0] [_, _, _] rfl underlying25 Bm rfl (by omega) (by kernel_rfl) Qt rfl rfl rfl rfl (fun g18 => AN fun h3 l3 k3 => ?_)
   have hE := (hE.up l3).snoc ((OwnL.blk (g := g18) (el := 3) (F := cI) (l := [0, 3, 4]) 3 AT rfl (by decide)).rdh (h := h3) (ms := []) k3)
   refine AE [(0, _), (1, _), (2, _)] [.int .i64 0, .int .i64 0, .int .i64 0] [_, _, _] rfl underlying25 Bm rfl (by omega) (by kernel_rfl) Qt rfl rfl rfl rfl (fun g19 => AN fun h4 l4 k4 => ?_)
   have hE := (hE.up l4).snoc ((OwnL.blk (g := g19) (el := 3) (F := cI) (l := [0, 4, 5]) 3 AT rfl (by decide)).rdh (h := h4) (ms := []) k4)
   refine AE [(0, _), (1, _), (2, _)] [.int .i64 0, .int .i64 0, .int .i64 0] [_, _, _] rfl underlying25 Bm rfl (by omega) (by kernel_rfl) Qt rfl rfl rfl rfl (fun g20 => AN fun h5 l5 k5 => ?_)
   have hE := (hE.up l5).snoc ((OwnL.blk (g := g20) (el := 3) (F := cI) (l := [0, 1, 5]) 3 AT rfl (by decide)).rdh (h := h5) (ms := []) k5)
   refine AE [(0, _), (1, _), (2, _)] [.int .i64 0, .int .i64 0, .int .i64 0] [_, _, _] rfl underlying25 Bm rfl (by omega) (by kernel_rfl) Qt rfl rfl rfl rfl (fun g21 => AN fun h6 l6 k6 => ?_)
   have hE := (hE.up l6).snoc ((OwnL.blk (g := g21) (el := 3) (F := cI) (l := [1, 2, 4]) 3 AT rfl (by decide)).rdh (h := h6) (ms := []) k6)
   refine AE [(0, _), (1, _), (2, _)] [.int .i64 0, .int .i64 0, .int .i64 0] [_, _, _] rfl underlying25 Bm rfl (by omega) (by kernel_rfl) Qt rfl rfl rfl rfl (fun g22 => AN fun h7 l7 k7 => ?_)
   have hE := (hE.up l7).snoc ((OwnL.blk (g := g22) (el := 3) (F := cI) (l := [2, 3, 5]) 3 AT rfl (by decide)).rdh (h := h7) (ms := []) k7)
   refine AE [(0, _), (1, _), (2, _)] [.int .i64 0, .int .i64 0, .int .i64 0] [_, _, _] rfl underlying25 Bm rfl (by omega) (by kernel_rfl) Qt rfl rfl rfl rfl (fun g23 => AN fun h8 l8 k8 => ?_)
   have hE := (hE.up l8).snoc ((OwnL.blk (g := g23) (el := 3) (F := cI) (l := [1, 3, 4]) 3 AT rfl (by decide)).rdh (h := h8) (ms := []) k8)
   refine AE [(0, _), (1, _), (2, _)] [.int .i64 0, .int .i64 0, .int .i64 0] [_, _, _] rfl underlying25 Bm rfl (by omega) (by kernel_rfl) Qt rfl rfl rfl rfl (fun g24 => AN fun h9 l9 k9 => ?_)
   have hE := (hE.up l9).snoc ((OwnL.blk (g := g24) (el := 3) (F := cI) (l := [2, 4, 5]) 3 AT rfl (by decide)).rdh (h := h9) (ms := []) k9)
   refine AE [(0, _), (1, _), (2, _)] [.int .i64 0, .int .i64 0, .int .i64 0] [_, _, _] rfl underlying25 Bm rfl (by omega) (by kernel_rfl) Qt rfl rfl rfl rfl (fun g25 => AN fun h10 l10 k10 => ?_)
   have hE := (hE.up l10).snoc ((OwnL.blk (g := g25) (el := 3) (F := cI) (l := [1, 3, 5]) 3 AT rfl (by decide)).rdh (h := h10) (ms := []) k10)
   refine AE [(0, _), (1, _), (2, _), (3, _), (4, _), (5, _), (6, _), (7, _), (8, _), (9, _)] [.slice none 0 0, .slice none 0 0, .slice none 0 0, .slice none 0 0, .slice none 0 0, .slice none 0 0, .slice none 0 0, .slice none 0 0, .slice none 0 0, .slice none 0 0] [_, _, _, _, _, _, _, _, _, _] rfl underlying22 Cn rfl (by omega) (by kernel_rfl) Qt rfl rfl rfl rfl (fun g26 => Qm rfl (An (Aq (Al (Ae ?_)))))
   exact As rfl rfl (⟨(Hp.le_trans (Hp.le_trans (Hp.le_trans (Hp.le_trans (Hp.le_trans (Hp.le_trans (Hp.le_trans (Hp.le_trans (Hp.le_trans l1 l2) l3) l4) l5) l6) l7) l8) l9) l10), _, [_, _, _, _, _, _, _, _, _, _], rfl, OwnL.blk (F := cW) (l := [_, _, _, _, _, _, _, _, _, _]) 10 Dn rfl (by decide), by unfold EB; rw [if_neg hn1, if_pos hn2]; exact hE⟩)
  ·refine Ai (Aj (Ad (Az (Qm rfl (An (Ac (Az (Qm rfl (An (Ah (Bz ?_)))))))))))
   refine AD (fun q s hh ms' => ∃ (i : Nat) (v3 : Value) (m3 : Hp) (es : List Value), q = 7 - i ∧ s = [(0, .int .i64 n), (6, .int .i64 (n % 3)), (3, v3), (4, .int .i64 i)] ∧ h.le hh ∧ ms' = [m3] ∧ i ≤ 7 ∧ OwnL cW 1 25 m3 v3 es ∧ RdEs hh es (Lu i))
    (7 - 0) _ ⟨0, _, Hp.emp, [], rfl, rfl, Hp.le_refl _, rfl, by omega, OwnL.nil Dn, RdEs.nil _⟩ Qs ?_
   rintro q s hh ms' ⟨i, v3, m3, es, rfl, rfl, lh, rfl, hi7, hO, hEs⟩
   have hes := hEs.1
   rw [Rx] at hes
   have ov3 : v3.oneCell' = true := (hO.rd (h := hh) (ms := [m3]) (List.Mem.head _)).rd.one
   refine Ac (Az (Qm rfl (Qm rfl (An ?_))))
   refine Ax rfl (fun h7 => ?_) (fun h7 => ?_)
   ·refine Ai (Ad (Ac (Ah (Ab (Qm rfl (Qm rfl (Qm rfl (Qx (oA rfl) rfl (Qx (B5 rfl rfl rfl (by omega) (by omega)) rfl (Qm rfl (Qx (oA rfl) rfl (Qx (B5 rfl rfl rfl (by omega) (by omega)) rfl (AE [(0, _), (1, _), (2, _)] [.int .i64 0, .int .i64 0, .int .i64 0] [_, _, _] rfl underlying25 Bm rfl (by omega) (by kernel_rfl) Qt rfl rfl rfl rfl (fun g39 => AN fun h1 l1 k1 => ?_))))))))))))))
    have hE1 := (hEs.up l1).snoc ((OwnL.blk (g := g39) (el := 3) (F := cI) (l := [(i : Int), ((i : Int) + 1) % 7, ((i : Int) + 3) % 7]) 3 AT rfl (by decide)).rdh (h := h1) (ms := []) k1)
    refine Qm rfl (Qm rfl (Qx (oA rfl) rfl (Qx (B5 rfl rfl rfl (by omega) (by omega)) rfl (Qm rfl (Qx (oA rfl) rfl (Qx (B5 rfl rfl rfl (by omega) (by omega)) rfl (AE [(0, _), (1, _), (2, _)] [.int .i64 0, .int .i64 0, .int .i64 0] [_, _, _] rfl underlying25 Bm rfl (by omega) (by kernel_rfl) Qt rfl rfl rfl rfl (fun g47 => AN fun h2 l2 k2 => ?_))))))))
    have hE2 := (hE1.up l2).snoc ((OwnL.blk (g := g47) (el := 3) (F := cI) (l := [(i : Int), ((i : Int) + 2) % 7, ((i : Int) + 3) % 7]) 3 AT rfl (by decide)).rdh (h := h2) (ms := []) k2)
    rw [← JU, List.append_assoc] at hE2
    refine AE [(0, _), (1, _)] [.slice none 0 0, .slice none 0 0] [_, _] rfl underlying22 Cn rfl (by omega) (by kernel_rfl) Qt rfl rfl rfl rfl (fun g48 => ?_)
    refine Bh 1 hO (OwnL.blk (g := g48) (F := cW) (l := [.slice (some ⟨g39, 0, none⟩) 3 3, .slice (some ⟨g47, 0, none⟩) 3 3]) 2 Dn rfl (by decide) |>.rd (List.Mem.head _)) rfl underlying22 Cn rfl (by omega) rfl rfl rfl (IJ fun u hu => by simp only [List.mem_cons, List.not_mem_nil, or_false] at hu; rcases hu with rfl | rfl <;> rfl) (by (try simp only [List.length_singleton, List.length_cons, List.length_nil]); omega) (by (try simp only [List.length_singleton, List.length_cons, List.length_nil]); omega) rfl rfl rfl (fun v6 m6 hO6 => ?_)
    have ov6 : v6.oneCell' = true := (hO6.rd (h := h2) (ms := [m6]) (List.Mem.head _)).rd.one
    refine Qm rfl (Ak (Aj (Ad (Ab (Qm rfl (Qx (oA rfl) rfl (Qm rfl (Ak (Bn 0 rfl ?_)))))))))
    exact Am (7 - (i + 1)) _ (by omega) ⟨i + 1, v6, m6, _, rfl, rfl, Hp.le_trans lh (Hp.le_trans l1 l2), rfl, by omega, hO6, hE2⟩ Qs
   ·obtain rfl : i = 7 := by omega
    refine Aw (Aa (Aa (Ag (Ad (Az (Qm rfl (Qm rfl (An (Aq ?_)))))))))
    exact As rfl rfl (⟨lh, m3, es, rfl, hO, by unfold EB; rw [if_neg hn1, if_neg hn2]; exact hEs⟩)
end Go.Proofs.YtodheebhahdepaaGreat

namespace Go.Proofs.YtodheebhahdepaaGreat
open Go.Eng Go.RowKit
structure RgtF (o : List Cl) : Prop where
 n : o.length ≤ 4000
 inc : o.Pairwise fun a b => a.id < b.id
 pos : ∀ x ∈ o, 1 ≤ x.id
 can : ∀ x ∈ o, ∃ y : Cl, x = y.can
 fst : ∀ x ∈ o, BR o x = 0
 snd : ∀ x ∈ o, 2 ≤ x.dim → Dk o x = 0
theorem MS {β : Type} {e : Nat → Option β} : ∀ {n : Nat}, (List.range n).findSome? e = none → ∀ b, b < n → e b = none := fun {n} h b hb => by
 rw [List.findSome?_eq_none_iff] at h
 exact h b (List.mem_range.2 hb)
theorem Fe (l : List Cl) : (ordF l).length = l.length := by
 rw [(Eo l.length l (Nat.le_refl _)).length_eq, List.length_map]
theorem W8 {o : List Cl} (h1 : o.Pairwise fun a b => a.id ≤ b.id) (h2 : ∀ b (hb : b + 1 < o.length), o[b].id ≠ o[b + 1].id) : o.Pairwise fun a b => a.id < b.id := by
 rw [List.pairwise_iff_getElem] at *
 intro i j hi hj hij
 have h3 := h1 i j hi hj hij
 have h4 := h2 i (by omega)
 have h5 : o[i].id ≤ o[i + 1].id := h1 i (i + 1) hi (by omega) (by omega)
 rcases (by omega : j = i + 1 ∨ i + 1 < j) with rfl | h6
 ·omega
 ·have := h1 (i + 1) j (by omega) hj h6; omega
theorem Iw {l : List Cl} (h : (CW l).2 = 0) : RgtF (ordF l) ∧ DT l = ordF l := by
 unfold CW at h
 split at h
 ·exact absurd h (by decide)
 rename_i h4
 cases hA : (List.range l.length).findSome? (GM (ordF l) (DT l)) with
 | some x =>
  rw [hA] at h
  obtain ⟨b, hb, e⟩ := List.exists_of_findSome?_eq_some hA
  unfold GM at e
  split at e
  ·cases e; exact absurd h (show ¬ ((20 : Int) = 0) by decide)
  ·split at e
   ·rename_i h5; cases e; exact absurd h h5
   ·cases e
 | none =>
  rw [hA] at h
  cases hB : (List.range l.length).findSome? (IF (ordF l)) with
  | some x =>
   rw [hB] at h
   obtain ⟨b, hb, e⟩ := List.exists_of_findSome?_eq_some hB
   unfold IF at e
   split at e
   ·cases e
   ·split at e
    ·rename_i h5; cases e; exact absurd h h5
    ·cases e
  | none =>
   have hl := Fe l
   have h1 : ∀ b (hb : b < (ordF l).length), (1 ≤ (ordF l)[b].id ∧ ¬ (0 < b ∧ (ordF l)[b].id = ((ordF l).getD (b - 1) default).id)) ∧ BR (DT l) (ordF l)[b] = 0 := fun b hb => by
    have := MS hA b (by omega)
    unfold GM at this
    rw [Gc hb] at this
    split at this
    ·cases this
    ·rename_i h1
     split at this
     ·cases this
     ·rename_i h2
      exact ⟨⟨by omega, fun q => h1 (.inr q)⟩, Classical.not_not.1 h2⟩
   have h2 : ∀ b (hb : b + 1 < (ordF l).length), (ordF l)[b].id ≠ (ordF l)[b + 1].id := fun b hb q => by
    have h1 := (h1 (b + 1) hb).1.2
    refine h1 ⟨by omega, ?_⟩
    rw [show b + 1 - 1 = b by omega, Gc (show b < (ordF l).length by omega)]; exact q.symm
   have heq : DT l = ordF l := Pn _ _ (fun _ => nofun) h2
   refine ⟨⟨by omega, W8 (Dv l.length l (Nat.le_refl _)) h2, fun x hx => ?_, fun x hx => ?_, fun x hx => ?_, fun x hx hd => ?_⟩, heq⟩
   ·obtain ⟨b, hb, rfl⟩ := List.mem_iff_getElem.1 hx
    exact (h1 b hb).1.1
   ·obtain ⟨a, _, e⟩ := EN hx
    exact ⟨a, e⟩
   ·obtain ⟨b, hb, rfl⟩ := List.mem_iff_getElem.1 hx
    rw [heq] at h1
    exact (h1 b hb).2
   ·obtain ⟨b, hb, rfl⟩ := List.mem_iff_getElem.1 hx
    have := MS hB b (by omega)
    unfold IF at this
    rw [Gc hb, if_neg (by omega)] at this
    split at this
    ·cases this
    ·rename_i h2; exact Classical.not_not.1 h2
theorem RgtF.bds {o : List Cl} (R : RgtF o) {x : Cl} (hx : x ∈ o) : (0 ≤ x.dim ∧ x.dim ≤ 8) ∧ x.sd.length ≤ 64 ∧ ∀ r ∈ x.sd, r.2 = 1 ∨ r.2 = -1 := by
 obtain ⟨h1, h2, _, h4⟩ := D3 (R.fst x hx)
 refine ⟨h1, h2, fun r hr => ?_⟩
 obtain ⟨i, hi, rfl⟩ := List.mem_iff_getElem.1 hr
 have := h4 i hi
 unfold Bw at this
 rw [A4 hi] at this
 omega
variable {a b c : Int} {x : Cl} {l : List Int} {m n : Nat}
abbrev Fo := List (Int × Int × Int)
def Dy (T : Fo) (c : Int) : Int := (T.map fun e => if e.2.1 = c then e.2.2 else 0).sum
def EK (T : Fo) (c : Int) : Int := (T.map fun e => if e.2.1 = c then (1 : Int) else 0).sum
inductive Con (T : Fo) : Int → Int → Prop
 | refl (a : Int) : Con T a a
 | step {a b d c w w' : Int} : Con T a b → (b, c, w) ∈ T → (d, c, w') ∈ T → Con T a d
theorem Con.trans {T : Fo} (h : Con T a b) (h' : Con T b c) : Con T a c := by
 induction h' with
 | refl => exact h
 | step _ h1 h2 ih => exact .step ih h1 h2
theorem Con.symm {T : Fo} (h : Con T a b) : Con T b a := by
 induction h with
 | refl => exact .refl _
 | step _ h1 h2 ih => exact (Con.step (.refl _) h2 h1).trans ih
theorem Con.mono {T T' : Fo} (hs : ∀ e ∈ T, e ∈ T') (h : Con T a b) : Con T' a b := by
 induction h with
 | refl => exact .refl _
 | step _ h1 h2 ih => exact .step ih (hs _ h1) (hs _ h2)
theorem Con.in {T : Fo} (h : Con T a b) : a = b ∨ ((∃ c w, (a, c, w) ∈ T) ∧ ∃ c w, (b, c, w) ∈ T) := by
 induction h with
 | refl => exact .inl rfl
 | step _ h1 h2 ih =>
  rcases ih with rfl | ih
  ·exact .inr ⟨⟨_, _, h1⟩, _, _, h2⟩
  ·exact .inr ⟨ih.1, _, _, h2⟩
theorem Con.snoc {T : Fo} {i f w : Int} (hf : f = i ∧ (∀ g w', (g, c, w') ∉ T) ∨ ∃ w', (f, c, w') ∈ T) : Con (T ++ [(i, c, w)]) a b ↔ Con T a b ∨ (Con T a i ∧ Con T f b) ∨ (Con T a f ∧ Con T i b) := by
 have hsub : ∀ e ∈ T, e ∈ T ++ [(i, c, w)] := fun e he => List.mem_append_left _ he
 have hi : (i, c, w) ∈ T ++ [(i, c, w)] := List.mem_append_right _ (List.Mem.head _)
 have hfi : Con (T ++ [(i, c, w)]) i f := by
  rcases hf with ⟨rfl, _⟩ | ⟨w', h⟩
  ·exact .refl _
  ·exact .step (.refl _) hi (hsub _ h)
 constructor
 ·intro h
  induction h with
  | refl => exact .inl (.refl _)
  | @step b d c' w1 w2 _ h1 h2 ih =>
   -- the last step
   have key : ∀ {b d}, (b, c', w1) ∈ T ++ [(i, c, w)] → (d, c', w2) ∈ T ++ [(i, c, w)] → Con T b d ∨ (Con T b i ∧ Con T f d) ∨ (Con T b f ∧ Con T i d) := fun {b d} h1 h2 => by
    rcases List.mem_append.1 h1 with g1 | g1 <;> rcases List.mem_append.1 h2 with g2 | g2
    ·exact .inl (.step (.refl _) g1 g2)
    ·obtain ⟨e1, e2, e3⟩ : d = i ∧ c' = c ∧ w2 = w := by simpa using g2
     rcases hf with ⟨_, hn⟩ | ⟨w', h⟩
     ·exact absurd (e2 ▸ g1) (hn _ _)
     ·rw [e1]; exact .inr (.inr ⟨.step (.refl _) (e2 ▸ g1) h, .refl _⟩)
    ·obtain ⟨e1, e2, e3⟩ : b = i ∧ c' = c ∧ w1 = w := by simpa using g1
     rcases hf with ⟨_, hn⟩ | ⟨w', h⟩
     ·exact absurd (e2 ▸ g2) (hn _ _)
     ·rw [e1]; exact .inr (.inl ⟨.refl _, .step (.refl _) h (e2 ▸ g2)⟩)
    ·obtain ⟨e1, _⟩ : b = i ∧ c' = c ∧ w1 = w := by simpa using g1
     obtain ⟨e2, _⟩ : d = i ∧ c' = c ∧ w2 = w := by simpa using g2
     rw [e1, e2]; exact .inl (.refl _)
   have k := key h1 h2
   rcases ih with ih | ⟨i1, i2⟩ | ⟨i1, i2⟩
   ·rcases k with k | ⟨k1, k2⟩ | ⟨k1, k2⟩
    ·exact .inl (ih.trans k)
    ·exact .inr (.inl ⟨ih.trans k1, k2⟩)
    ·exact .inr (.inr ⟨ih.trans k1, k2⟩)
   ·rcases k with k | ⟨k1, k2⟩ | ⟨k1, k2⟩
    ·exact .inr (.inl ⟨i1, i2.trans k⟩)
    ·exact .inr (.inl ⟨i1, k2⟩)
    ·exact .inl (i1.trans k2)
   ·rcases k with k | ⟨k1, k2⟩ | ⟨k1, k2⟩
    ·exact .inr (.inr ⟨i1, i2.trans k⟩)
    ·exact .inl (i1.trans k2)
    ·exact .inr (.inr ⟨i1, k2⟩)
 ·rintro (h | ⟨h1, h2⟩ | ⟨h1, h2⟩)
  ·exact h.mono hsub
  ·exact (h1.mono hsub).trans (hfi.trans (h2.mono hsub))
  ·exact (h1.mono hsub).trans (hfi.symm.trans (h2.mono hsub))
theorem K2 (T : Fo) (e : Int × Int × Int) (c : Int) : Dy (T ++ [e]) c = Dy T c + if e.2.1 = c then e.2.2 else 0 := by simp [Dy]
theorem R3 (T : Fo) (e : Int × Int × Int) (c : Int) : EK (T ++ [e]) c = EK T c + if e.2.1 = c then 1 else 0 := by simp [EK]
theorem K3 {T : Fo} (h : ∀ e ∈ T, e.2.1 ≠ c) : Dy T c = 0 ∧ EK T c = 0 := by
 induction T with
 | nil => exact ⟨rfl, rfl⟩
 | cons e T ih =>
  obtain ⟨h1, h2⟩ := ih fun e he => h e (List.mem_cons_of_mem _ he)
  have h3 := h e (List.Mem.head _)
  unfold Dy at *
  unfold EK at *
  simp only [List.map_cons, List.sum_cons, if_neg h3, h1, h2]
  exact ⟨rfl, rfl⟩
theorem JW {x : Int} : DJ (a :: l) x = if a = x then 0 else DJ l x + 1 := by
 unfold DJ
 rw [List.takeWhile_cons]
 by_cases e : a = x
 ·simp [e]
 ·simp [e]
theorem Rk {x : Int} {k : Nat} (hk : DJ l x = k) (h : k < l.length) : l[k] = x := by
 induction l generalizing k with
 | nil => simp at h
 | cons a l ih =>
  rw [JW] at hk
  split at hk
  ·subst hk; assumption
  ·subst hk
   rw [List.getElem_cons_succ]
   exact ih rfl (by simpa using h)
theorem RN {x : Int} (h : DJ l x = l.length) : x ∉ l := by
 induction l with
 | nil => simp
 | cons a l ih =>
  rw [JW] at h
  split at h
  ·simp at h
  ·rename_i e
   rw [List.mem_cons]
   rintro (rfl | h1)
   ·exact e rfl
   ·exact ih (by simpa using h) h1
theorem GG {α : Type} {l : List α} (h : l.Nodup) {i j : Nat} (hi : i < l.length) (hj : j < l.length) (e : l[i] = l[j]) : i = j := by
 have h1 := List.pairwise_iff_getElem.1 h
 rcases Nat.lt_trichotomy i j with h2 | h2 | h2
 ·exact absurd e (h1 i j hi hj h2)
 ·exact h2
 ·exact absurd e.symm (h1 j i hj hi h2)
structure S2.Inv (S : S2) (x : Cl) (T : Fo) (m n : Nat) : Prop where
 nd : S.ids.Nodup
 mem : ∀ c, c ∈ S.ids ↔ ∃ a w, (a, c, w) ∈ T
 ls : S.su.length = S.ids.length
 lm : S.ma.length = S.ids.length
 lf : S.fi.length = S.ids.length
 lp : S.pa.length = n
 su : ∀ k (hk : k < S.ids.length), S.su.getD k 0 = Dy T S.ids[k]
 ma : ∀ k (hk : k < S.ids.length), S.ma.getD k 0 = EK T S.ids[k]
 fi : ∀ k (hk : k < S.ids.length), ∃ j : Nat, j < m ∧ S.fi.getD k 0 = (j : Int) ∧ ∃ w, ((Bc x j).1, S.ids[k], w) ∈ T
 pl : ∀ j, j < m → 0 ≤ S.pa.getD j 0 ∧ S.pa.getD j 0 < m
 pc : ∀ j j', j < m → j' < m → (S.pa.getD j 0 = S.pa.getD j' 0 ↔ Con T (Bc x j).1 (Bc x j').1)
 fr : ∀ e ∈ T, ∃ j : Nat, j < m ∧ e.1 = (Bc x j).1
theorem Hq (l : List Int) (k j : Nat) (y : Int) (hk : k < l.length) : (l.set k y).getD j 0 = if j = k then y else l.getD j 0 := by
 simp only [List.getD_eq_getElem?_getD, List.getElem?_set]
 by_cases e : k = j
 ·subst e; simp [hk]
 ·simp [e, Ne.symm e]
theorem Gv (l : List Int) (j : Nat) (y : Int) : (l ++ [y]).getD j 0 = if j = l.length then y else l.getD j 0 := by
 simp only [List.getD_eq_getElem?_getD]
 rcases Nat.lt_trichotomy j l.length with h | h | h
 ·rw [List.getElem?_append_left h, if_neg (by omega)]
 ·subst h; simp
 ·rw [if_neg (by omega), List.getElem?_eq_none (by simp; omega), List.getElem?_eq_none (by omega)]
theorem Rm (pa : List Int) (m : Nat) (now old : Int) (j : Nat) (hm : m ≤ pa.length) (hj : j < m) : (Eu pa m now old).getD j 0 = if pa.getD j 0 = now then old else pa.getD j 0 := by
 have h1 : j < pa.length := by omega
 have h2 : j < (Eu pa m now old).length := by rw [CE]; exact h1
 simp only [List.getD_eq_getElem?_getD, List.getElem?_eq_getElem h1, List.getElem?_eq_getElem h2, Option.getD_some]
 rw [D1 h1]
 simp [hj]
theorem S2.Inv.start {S : S2} {T : Fo} (I : S.Inv x T m n) (hm : m < n) (hd : ∀ j, j < m → (Bc x j).1 ≠ (Bc x m).1) : (S.start m).Inv x T (m + 1) n := by
 have hp := I.lp
 have hg : ∀ j, (S.pa.set m (m : Int)).getD j 0 = if j = m then (m : Int) else S.pa.getD j 0 := fun j => Hq _ _ _ _ (by omega)
 have hnew : ∀ j, j < m → ¬ Con T (Bc x j).1 (Bc x m).1 := fun j hj h => by
  rcases h.in with h | ⟨_, c, w, h⟩
  ·exact hd j hj h
  ·obtain ⟨j', hj', e⟩ := I.fr _ h
   exact hd j' hj' e.symm
 refine ⟨I.nd, I.mem, I.ls, I.lm, I.lf, by show (List.set _ _ _).length = n; rw [List.length_set]; exact hp, I.su, I.ma, fun k hk => ?_, fun j hj => ?_, fun j j' hj hj' => ?_, fun e he => ?_⟩
 ·obtain ⟨j, h1, h2⟩ := I.fi k hk; exact ⟨j, by omega, h2⟩
 ·show 0 ≤ (S.pa.set m (m : Int)).getD j 0 ∧ (S.pa.set m (m : Int)).getD j 0 < ((m + 1 : Nat) : Int)
  rw [hg]
  split
  ·omega
  ·have := I.pl j (by omega); omega
 ·show (S.pa.set m (m : Int)).getD j 0 = (S.pa.set m (m : Int)).getD j' 0 ↔ _
  rw [hg, hg]
  by_cases e : j = m <;> by_cases e' : j' = m
  ·subst e; subst e'; exact ⟨fun _ => .refl _, fun _ => rfl⟩
  ·subst e
   rw [if_pos rfl, if_neg e']
   have := I.pl j' (by omega)
   exact ⟨fun h => by omega, fun h => absurd h.symm (hnew j' (by omega))⟩
  ·subst e'
   rw [if_neg e, if_pos rfl]
   have := I.pl j (by omega)
   exact ⟨fun h => by omega, fun h => absurd h (hnew j (by omega))⟩
  ·rw [if_neg e, if_neg e']; exact I.pc j j' (by omega) (by omega)
 ·obtain ⟨j, h1, h2⟩ := I.fr e he; exact ⟨j, by omega, h2⟩
theorem S2.Inv.side {S : S2} {T : Fo} (I : S.Inv x T (m + 1) n) (hm : m < n) (w : Int) (r : Int × Int) : (S.side m w r).Inv x (T ++ [((Bc x m).1, r.1, w * r.2)]) (m + 1) n := by
 have hp := I.lp
 -- the place of the id, in the state after add
 obtain ⟨k, hk⟩ : ∃ k, DJ S.ids r.1 = k := ⟨_, rfl⟩
 obtain ⟨U, hU⟩ : ∃ U, S.add m r.1 = U := ⟨_, rfl⟩
 have A : U.pa = S.pa ∧ U.ids.Nodup ∧ (∀ c, c ∈ U.ids ↔ c = r.1 ∨ ∃ a w, (a, c, w) ∈ T) ∧ U.su.length = U.ids.length ∧ U.ma.length = U.ids.length ∧ U.fi.length = U.ids.length ∧ (∀ k (hk : k < U.ids.length), U.su.getD k 0 = Dy T U.ids[k]) ∧ (∀ k (hk : k < U.ids.length), U.ma.getD k 0 = EK T U.ids[k]) ∧ (∃ hk : k < U.ids.length, U.ids[k] = r.1) ∧
   (∀ k' (hk' : k' < U.ids.length), k' ≠ k → ∃ j : Nat, j < m + 1 ∧ U.fi.getD k' 0 = (j : Int) ∧ ∃ w, ((Bc x j).1, U.ids[k'], w) ∈ T) ∧
   ∃ f : Nat, f < m + 1 ∧ U.fi.getD k 0 = (f : Int) ∧ ((Bc x f).1 = (Bc x m).1 ∧ f = m ∧ (∀ g w', (g, r.1, w') ∉ T) ∨ ∃ w', ((Bc x f).1, r.1, w') ∈ T) := by
  subst hU
  unfold S2.add
  by_cases h : DJ S.ids r.1 = S.ids.length
  ·have hn := RN h
   have hnT : ∀ g w', (g, r.1, w') ∉ T := fun g w' hg => hn ((I.mem _).2 ⟨g, w', hg⟩)
   have h0 : Dy T r.1 = 0 ∧ EK T r.1 = 0 := K3 fun e he q => hnT e.1 e.2.2 (by rw [← q]; exact he)
   rw [if_pos h]
   have hkl : k = S.ids.length := by omega
   have hget : ∀ k' (hk' : k' < (S.ids ++ [r.1]).length), (S.ids ++ [r.1])[k'] = if h : k' < S.ids.length then S.ids[k'] else r.1 := fun k' hk' => by
    by_cases h1 : k' < S.ids.length
    ·rw [dif_pos h1, List.getElem_append_left h1]
    ·rw [dif_neg h1, List.getElem_append_right (by omega)]; simp
   refine ⟨rfl, ?_, fun c => ?_, by simp [I.ls], by simp [I.lm], by simp [I.lf], fun k' hk' => ?_, fun k' hk' => ?_, ⟨by show k < (S.ids ++ [r.1]).length; simp; omega, ?_⟩, fun k' hk' hne => ?_, m, by omega, ?_, .inl ⟨rfl, rfl, hnT⟩⟩
   ·exact List.nodup_append.2 ⟨I.nd, by simp, fun a ha b hb e => by rw [List.mem_singleton.1 hb] at e; exact hn (e ▸ ha)⟩
   ·show c ∈ S.ids ++ [r.1] ↔ _
    rw [List.mem_append, List.mem_singleton, I.mem]
    exact ⟨fun h => h.symm, fun h => h.symm⟩
   ·have hk'' : k' < S.ids.length + 1 := by have : k' < (S.ids ++ [r.1]).length := hk'; simpa using this
    show (S.su ++ [0]).getD k' 0 = Dy T (S.ids ++ [r.1])[k']
    rw [Gv, hget k' hk', I.ls]
    by_cases h1 : k' < S.ids.length
    ·rw [if_neg (by omega), dif_pos h1]; exact I.su k' h1
    ·rw [if_pos (by omega), dif_neg h1, h0.1]
   ·have hk'' : k' < S.ids.length + 1 := by have : k' < (S.ids ++ [r.1]).length := hk'; simpa using this
    show (S.ma ++ [0]).getD k' 0 = EK T (S.ids ++ [r.1])[k']
    rw [Gv, hget k' hk', I.lm]
    by_cases h1 : k' < S.ids.length
    ·rw [if_neg (by omega), dif_pos h1]; exact I.ma k' h1
    ·rw [if_pos (by omega), dif_neg h1, h0.2]
   ·show (S.ids ++ [r.1])[k]'_ = r.1
    rw [hget, dif_neg (by omega)]
   ·have hk'' : k' < S.ids.length + 1 := by have : k' < (S.ids ++ [r.1]).length := hk'; simpa using this
    obtain ⟨j, h1, h2, h3⟩ := I.fi k' (by omega)
    refine ⟨j, h1, ?_, ?_⟩
    ·show (S.fi ++ [(m : Int)]).getD k' 0 = j
     rw [Gv, I.lf, if_neg (by omega)]; exact h2
    ·show ∃ w, (_, (S.ids ++ [r.1])[k']'hk', w) ∈ T
     rw [hget k' hk', dif_pos (show k' < S.ids.length by omega)]; exact h3
   ·show (S.fi ++ [(m : Int)]).getD k 0 = (m : Int)
    rw [Gv, I.lf, if_pos hkl]
  ·have hle := MX S.ids r.1
   have hkl : k < S.ids.length := by omega
   have hge : S.ids[k] = r.1 := Rk hk hkl
   have hin : r.1 ∈ S.ids := by rw [← hge]; exact List.getElem_mem hkl
   rw [if_neg h]
   obtain ⟨f, f1, f2, f3⟩ := I.fi k hkl
   refine ⟨rfl, I.nd, fun c => ?_, I.ls, I.lm, I.lf, I.su, I.ma, ⟨hkl, hge⟩, fun k' hk' _ => I.fi k' hk', f, f1, f2, .inr (by rw [hge] at f3; exact f3)⟩
   rw [I.mem]
   refine ⟨.inr, fun h => ?_⟩
   rcases h with rfl | h
   ·exact (I.mem _).1 hin
   ·exact h
 obtain ⟨a1, a2, a3, a4, a5, a6, a7, a8, ⟨a9, a10⟩, a11, f, f1, f2, f3⟩ := A
 have hS : S.side m w r = U.hit m k (w * r.2) := by unfold S2.side; rw [hU, hk]
 rw [hS]
 have hcf : ∀ {a b}, Con (T ++ [((Bc x m).1, r.1, w * r.2)]) a b ↔ _ := fun {a b} => Con.snoc (a := a) (b := b) (T := T) (i := (Bc x m).1) (f := (Bc x f).1) (c := r.1) (w := w * r.2) (by
  rcases f3 with ⟨h1, _, h2⟩ | h
  ·exact .inl ⟨h1, h2⟩
  ·exact .inr h)
 have hrel : ∀ j, j < m + 1 → (Eu U.pa (m + 1) (U.pa.getD m 0) (U.pa.getD (U.fi.getD k 0).toNat 0)).getD j 0 = if S.pa.getD j 0 = S.pa.getD m 0 then S.pa.getD f 0 else S.pa.getD j 0 := fun j hj => by
  rw [Rm _ _ _ _ _ (by rw [a1]; omega) hj, a1, f2, Int.toNat_natCast]
 refine ⟨a2, fun c => ?_, by show (List.set _ _ _).length = _; rw [List.length_set]; exact a4, by show (List.set _ _ _).length = _; rw [List.length_set]; exact a5, a6, by show (Eu _ _ _ _).length = n; rw [CE, a1]; exact hp, fun k' hk0 => ?_, fun k' hk0 => ?_, fun k' hk0 => ?_, fun j hj => ?_, fun j j' hj hj' => ?_, fun e he => ?_⟩
 ·show c ∈ U.ids ↔ _
  rw [a3]
  constructor
  ·rintro (rfl | ⟨a, w', h⟩)
   ·exact ⟨_, _, List.mem_append_right _ (List.Mem.head _)⟩
   ·exact ⟨a, w', List.mem_append_left _ h⟩
  ·rintro ⟨a, w', h⟩
   rcases List.mem_append.1 h with h | h
   ·exact .inr ⟨a, w', h⟩
   ·have := List.mem_singleton.1 h
    exact .inl (congrArg (fun e : Int × Int × Int => e.2.1) this)
 ·have hk' : k' < U.ids.length := hk0
  show (U.su.set k (U.su.getD k 0 + w * r.2)).getD k' 0 = Dy _ (U.ids[k']'hk')
  rw [Hq _ _ _ _ (by omega), K2]
  by_cases e : k' = k
  ·subst e; rw [if_pos rfl, a7 k' hk', a10]; simp
  ·have : ¬ r.1 = U.ids[k']'hk' := fun h => e (GG a2 hk' a9 (by rw [a10]; exact h.symm))
   rw [if_neg e, a7 k' hk', if_neg this, Int.add_zero]
 ·have hk' : k' < U.ids.length := hk0
  show (U.ma.set k (U.ma.getD k 0 + 1)).getD k' 0 = EK _ (U.ids[k']'hk')
  rw [Hq _ _ _ _ (by omega), R3]
  by_cases e : k' = k
  ·subst e; rw [if_pos rfl, a8 k' hk', a10]; simp
  ·have : ¬ r.1 = U.ids[k']'hk' := fun h => e (GG a2 hk' a9 (by rw [a10]; exact h.symm))
   rw [if_neg e, a8 k' hk', if_neg this, Int.add_zero]
 ·have hk' : k' < U.ids.length := hk0
  show ∃ j : Nat, j < m + 1 ∧ U.fi.getD k' 0 = (j : Int) ∧ ∃ w', ((Bc x j).1, U.ids[k']'hk', w') ∈ _
  by_cases e : k' = k
  ·subst e
   refine ⟨f, f1, f2, ?_⟩
   rw [a10]
   rcases f3 with ⟨h1, _, _⟩ | ⟨w', h⟩
   ·exact ⟨w * r.2, by rw [h1]; exact List.mem_append_right _ (List.Mem.head _)⟩
   ·exact ⟨w', List.mem_append_left _ h⟩
  ·obtain ⟨j, j1, j2, w', j3⟩ := a11 k' hk' e
   exact ⟨j, j1, j2, w', List.mem_append_left _ j3⟩
 ·show 0 ≤ (Eu _ _ _ _).getD j 0 ∧ (Eu _ _ _ _).getD j 0 < _
  rw [hrel j hj]
  have := I.pl j hj
  have := I.pl f f1
  split <;> omega
 ·show (Eu _ _ _ _).getD j 0 = (Eu _ _ _ _).getD j' 0 ↔ _
  rw [hrel j hj, hrel j' hj', hcf, ← I.pc j j' hj hj', ← I.pc j m hj (by omega), ← I.pc f j' f1 hj', ← I.pc j f hj f1, ← I.pc m j' (by omega) hj']
  split <;> split <;> omega
 ·rcases List.mem_append.1 he with h | h
  ·exact I.fr e h
  ·rw [List.mem_singleton.1 h]; exact ⟨m, by omega, rfl⟩
theorem S2.Inv.sides (hm : m < n) (w : Int) : ∀ (l : List (Int × Int)) (S : S2) (T : Fo), S.Inv x T (m + 1) n → (S.sides m w l).Inv x (T ++ l.map fun r => ((Bc x m).1, r.1, w * r.2)) (m + 1) n
 | [], S, T, I => by rw [List.map_nil, List.append_nil]; exact I
 | r :: l, S, T, I => by
  have := S2.Inv.sides hm w l (S.side m w r) _ (I.side hm w r)
  rw [List.append_assoc] at this
  exact this
def KB (l : List Cl) (x : Cl) (m : Nat) : Fo := (List.range m).flatMap fun i => (Ez l x i).sd.map fun r => ((Bc x i).1, r.1, (Bc x i).2 * r.2)
theorem RM (l : List Cl) (x : Cl) (m : Nat) : KB l x (m + 1) = KB l x m ++ (Ez l x m).sd.map fun r => ((Bc x m).1, r.1, (Bc x m).2 * r.2) := by
 unfold KB
 rw [List.range_succ, List.flatMap_append]
 simp
theorem Nx {l : List Cl} (hd : ∀ j m, j < m → m < x.sd.length → (Bc x j).1 ≠ (Bc x m).1) : ∀ m, m ≤ x.sd.length → (Gf l x m).Inv x (KB l x m) m x.sd.length
 | 0, _ => ⟨by show List.Nodup []; simp, fun c => ⟨fun h => by simp [Gf] at h, fun ⟨a, w, h⟩ => by simp [KB] at h⟩, rfl, rfl, rfl, by simp [Gf], fun k hk => absurd hk (Nat.not_lt_zero _), fun k hk => absurd hk (Nat.not_lt_zero _), fun k hk => absurd hk (Nat.not_lt_zero _), fun j hj => by omega, fun j j' hj => by omega, fun e he => by simp [KB] at he⟩
 | m + 1, h => by
  rw [RM]
  exact S2.Inv.sides (by omega) _ _ _ _ ((Nx hd m (by omega)).start (by omega) fun j hj => hd j m hj (by omega))
structure GoodT (T : Fo) (s : List (Int × Int)) : Prop where
 sum : ∀ e ∈ T, Dy T e.2.1 = 0
 two : ∀ e ∈ T, EK T e.2.1 = 2
 con : ∀ a ∈ s, ∀ b ∈ s, Con T a.1 b.1
theorem H6 {l : List Cl} (hd : ∀ j m, j < m → m < x.sd.length → (Bc x j).1 ≠ (Bc x m).1) : Dk l x = 0 ↔ GoodT (KB l x x.sd.length) x.sd := by
 have I := Nx (l := l) hd x.sd.length (Nat.le_refl _)
 obtain ⟨S, hS⟩ : ∃ S, Gf l x x.sd.length = S := ⟨_, rfl⟩
 obtain ⟨T, hT⟩ : ∃ T, KB l x x.sd.length = T := ⟨_, rfl⟩
 rw [hS, hT] at I
 rw [hT]
 have hget : ∀ {L : List Int} {j : Nat} (hj : j < L.length), L[j] = L.getD j 0 := fun {L j} hj => by simp [List.getD, hj]
 have h1 : (∀ y ∈ S.su, y = 0) ↔ ∀ e ∈ T, Dy T e.2.1 = 0 := by
  constructor
  ·intro h e he
   obtain ⟨k, hk, e1⟩ := List.getElem_of_mem ((I.mem e.2.1).2 ⟨e.1, e.2.2, he⟩)
   have h2 := I.su k hk
   rw [e1] at h2
   rw [← h2, ← hget (by rw [I.ls]; exact hk)]
   exact h _ (List.getElem_mem _)
  ·intro h y hy
   obtain ⟨k, hk, rfl⟩ := List.getElem_of_mem hy
   have hk' : k < S.ids.length := by rw [← I.ls]; exact hk
   rw [hget hk, I.su k hk']
   obtain ⟨a, w, h2⟩ := (I.mem _).1 (List.getElem_mem hk')
   exact h _ h2
 have h2 : (∀ y ∈ S.ma, y = 2) ↔ ∀ e ∈ T, EK T e.2.1 = 2 := by
  constructor
  ·intro h e he
   obtain ⟨k, hk, e1⟩ := List.getElem_of_mem ((I.mem e.2.1).2 ⟨e.1, e.2.2, he⟩)
   have h2 := I.ma k hk
   rw [e1] at h2
   rw [← h2, ← hget (by rw [I.lm]; exact hk)]
   exact h _ (List.getElem_mem _)
  ·intro h y hy
   obtain ⟨k, hk, rfl⟩ := List.getElem_of_mem hy
   have hk' : k < S.ids.length := by rw [← I.lm]; exact hk
   rw [hget hk, I.ma k hk']
   obtain ⟨a, w, h2⟩ := (I.mem _).1 (List.getElem_mem hk')
   exact h _ h2
 have h3 : (∀ y ∈ S.pa, y = S.pa.getD 0 0) ↔ ∀ a ∈ x.sd, ∀ b ∈ x.sd, Con T a.1 b.1 := by
  constructor
  ·intro h a ha b hb
   obtain ⟨j, hj, rfl⟩ := List.getElem_of_mem ha
   obtain ⟨j', hj', rfl⟩ := List.getElem_of_mem hb
   have e1 : S.pa.getD j 0 = S.pa.getD 0 0 := by rw [← hget (by rw [I.lp]; exact hj)]; exact h _ (List.getElem_mem _)
   have e2 : S.pa.getD j' 0 = S.pa.getD 0 0 := by rw [← hget (by rw [I.lp]; exact hj')]; exact h _ (List.getElem_mem _)
   have := (I.pc j j' hj hj').1 (by rw [e1, e2])
   rwa [A4 hj, A4 hj'] at this
  ·intro h y hy
   obtain ⟨j, hj, rfl⟩ := List.getElem_of_mem hy
   rw [hget hj]
   rw [I.lp] at hj
   refine (I.pc j 0 hj (by omega)).2 ?_
   rw [A4 hj, A4 (by omega)]
   exact h _ (List.getElem_mem _) _ (List.getElem_mem _)
 unfold Dk
 rw [hS]
 constructor
 ·intro h
  split at h
  ·exact absurd h (by decide)
  ·rename_i g1
   split at h
   ·exact absurd h (by decide)
   ·rename_i g2
    split at h
    ·exact absurd h (by decide)
    ·rename_i g3
     exact ⟨h1.1 (Classical.not_not.1 g1), h2.1 (Classical.not_not.1 g2), h3.1 (Classical.not_not.1 g3)⟩
 ·rintro ⟨g1, g2, g3⟩
  rw [if_neg (fun q => q (h1.2 g1)), if_neg (fun q => q (h2.2 g2)), if_neg (fun q => q (h3.2 g3))]
end Go.Proofs.YtodheebhahdepaaGreat

namespace Go.Proofs.YtodheebhahdepaaGreat
open Go.Proofs.Tryz
open Go.Eng Go.RowKit
theorem Sp (l : List Cl) (x : Int) : -1 ≤ Im l x := by
 unfold Im
 split
 ·split
  ·omega
  ·omega
 ·omega
structure PC (N : Nat) (c : Cl) : Prop where
 i : c.id ≤ (N : Int)
 d : 0 ≤ c.dim ∧ c.dim ≤ 16
 n : c.sd.length ≤ 128
theorem QO {t : Int} {N : Nat} (h1 : -1 ≤ t) (h2 : t ≤ 100000) (hN : N ≤ 100000) : -100000 ≤ t * (N : Int) ∧ t * (N : Int) ≤ 10000000000 := by
 rcases (by omega : t = -1 ∨ 0 ≤ t) with rfl | h
 ·omega
 ·obtain ⟨n, rfl⟩ := Int.eq_ofNat_of_zero_le h
  have h1 : n * N ≤ 100000 * 100000 := Nat.mul_le_mul (by omega) hN
  have h2 : ((n * N : Nat) : Int) = (n : Int) * (N : Int) := Int.natCast_mul _ _
  omega
theorem So {a b : Nat} {M N : Nat} (ha : a ≤ M) (hb : b ≤ N) : a * b ≤ M * N := Nat.mul_le_mul ha hb
theorem EL (la lb : List Ce) (va vb : Value) (hp : Hp) (hKa : MP la) (hKb : MP lb) (hRa : RdC hp va la) (hRb : RdC hp vb lb) : FnT Tryz.prog 18 #[.agg #[va], .agg #[vb]] hp [] (fun r h' ms' => hp.le h' ∧ ∃ m A v', ms' = [m] ∧ r = .agg #[v'] ∧ OwnL cC 3 59 m v' A ∧ (∀ a ∈ A, RdL cD 2 h' [] a.v a.c.sd) ∧ (A = [] ∨ ∃ out, A.map Ce.c = ordF out ∧ (CW out).2 = 0 ∧ out.length = la.length * lb.length ∧ ∀ c ∈ out, c.id ≤ ((la.length * lb.length : Nat) : Int))) := by
 have o1 := hRa.q.rd.one
 have o2 := hRb.q.rd.one
 have hna := hKa.n
 have hnb := hKb.n
 refine Av func18 ntmps18 rfl rfl (fun w0 hw0 => ?_)
 simp only [A5]
 refine Az ?_
 refine A8 [_] rfl rfl (by rfl) rfl rfl rfl (fun g2 => ?_)
 refine A8 [_] rfl rfl (by rfl) rfl rfl rfl (fun g3 => ?_)
 refine C4 [.slice none 0 0] rfl Bi rfl rfl (fun g4 => An (CZ 2 rfl fun h1 l1 hSa => (CZ 1 rfl fun h2 l2 hSb => ?_)))
 have hSa := hSa.le l2
 have hRa := hRa.up (Hp.le_trans l1 l2)
 have hRb := hRb.up (Hp.le_trans l1 l2)
 refine Az (Qx (oG rfl underlying29 Bi (Seg.any hSa)) rfl (Qx (AG rfl call42 rfl (Iv la va h2 hKa hRa _)) rfl (Qm rfl (BG (Qx (oG rfl underlying29 Bi (Seg.any hSb)) rfl (Qx (AG rfl call42 rfl (Iv lb vb h2 hKb hRb _)) rfl (Qm rfl (BG (Qx (oG rfl underlying29 Bi (Seg.any hSa)) rfl (Qc call43 rfl (JQ la va h2 hKa.toCsOk hRa) (fun rA h3 ms3 l3 hF => ?_)))))))))))
 obtain ⟨l3', mA, A, rfl, hOA, hA, hsA⟩ := hF
 refine A7 hOA fun h4 l4 hQA => ?_
 have hSb := hSb.le (Hp.le_trans l3 l4)
 have hRb := hRb.up (Hp.le_trans l3 l4)
 have oA_ := hQA.rd.one
 refine Qm rfl (BG (Qx (oG rfl underlying29 Bi (Seg.any hSb)) rfl (Qc call43 rfl (JQ lb vb h4 hKb.toCsOk hRb) (fun rB h5 ms5 l5 hF => ?_))))
 obtain ⟨l5', mB, B, rfl, hOB, hB, hsB⟩ := hF
 refine A7 hOB fun h6 l6 hQB => ?_
 have hQA := hQA.up (Hp.le_trans l5 l6)
 have oB := hQB.rd.one
 have hle : hp.le h6 := Hp.le_trans l1 (Hp.le_trans l2 (Hp.le_trans l3 (Hp.le_trans l4 (Hp.le_trans l5 l6))))
 have hAl : A.length ≤ la.length := by have := congrArg List.length hA; rw [List.length_map] at this; have := Hf (la.map Ce.c); rw [List.length_map] at this; omega
 have hBl : B.length ≤ lb.length := by have := congrArg List.length hB; rw [List.length_map] at this; have := Hf (lb.map Ce.c); rw [List.length_map] at this; omega
 have hmb : A.length * B.length ≤ 100000 * 100000 := So (by omega) (by omega)
 refine Qm rfl (An (Ac (Az (Qm rfl (Qm rfl (Qm rfl ?_))))))
 refine C6 (t := 29) rfl (fun hq1 => ?_) (fun hq1 => ?_)
 ·refine Qk rfl (Qk rfl (Qm rfl (Qm rfl (Qk rfl (Qk rfl (Qk rfl (Qk rfl (Qk rfl (Qk rfl (Qm rfl (An (Bk rfl (Az (Qx (A6 Po [.slice none 0 0] [] [_] rfl Bi rfl rfl Qt rfl) rfl ?_))))))))))))))
  refine Sa 0 [_] Bi rfl (by simp [Value.oneCell']) ?_
  refine An (Aq (Ae (Is ?_)))
  exact C7 (vs := [_]) 1 rfl rfl underlying29 rfl Bi rfl rfl (⟨hle, Hp.emp, [], _, rfl, rfl, OwnL.nil BP, (fun a ha => nomatch ha), .inl rfl⟩)
 ·refine Qg (Au rfl rfl) rfl (Qg (Ft rfl rfl) rfl (Qm rfl (Qm rfl ?_)))
  refine C6 (t := 33) rfl (fun hq2 => ?_) (fun hq2 => ?_)
  ·refine Qk rfl (Qk rfl (Qk rfl (Qk rfl (Qk rfl (Qk rfl (Qm rfl (An (Bk rfl (Az (Qx (A6 Po [.slice none 0 0] [] [_] rfl Bi rfl rfl Qt rfl) rfl ?_))))))))))
   refine Sa 0 [_] Bi rfl (by simp [Value.oneCell']) ?_
   refine An (Aq (Ae (Is ?_)))
   exact C7 (vs := [_]) 1 rfl rfl underlying29 rfl Bi rfl rfl (⟨hle, Hp.emp, [], _, rfl, rfl, OwnL.nil BP, (fun a ha => nomatch ha), .inl rfl⟩)
  ·refine Qg (Au rfl rfl) rfl (Qg (AC hQA.rd.any rfl underlying27 rfl) rfl (Qg (Au rfl rfl) rfl (Qg (AC hQB.rd.any rfl underlying27 rfl) rfl (Qg (oM rfl) rfl (Qg (BY rfl rfl rfl) rfl (Qm rfl (An ?_)))))))
   refine Ax rfl (fun hbig => ?_) (fun hbig => ?_)
   ·refine Ac (Ab (Qx (A6 Po [.slice none 0 0] [] [_] rfl Bi rfl rfl Qt rfl) rfl ?_))
    refine Sa 0 [_] Bi rfl (by simp [Value.oneCell']) ?_
    refine An (Aq (Ae (Is ?_)))
    exact C7 (vs := [_]) 1 rfl rfl underlying29 rfl Bi rfl rfl (⟨hle, Hp.emp, [], _, rfl, rfl, OwnL.nil BP, (fun a ha => nomatch ha), .inl rfl⟩)
   ·have hq1 : (CW (la.map Ce.c)).2 = 0 := by simpa using hq1
    have hq2 : (CW (lb.map Ce.c)).2 = 0 := by simpa using hq2
    obtain ⟨RA, eA⟩ := Iw hq1
    obtain ⟨RB, eB⟩ := Iw hq2
    rw [eA] at hA
    rw [eB] at hB
    rw [← hA] at RA
    rw [← hB] at RB
    have lA : A.length = la.length := by have := congrArg List.length hA; rwa [List.length_map, Fe, List.length_map] at this
    have lB : B.length = lb.length := by have := congrArg List.length hB; rwa [List.length_map, Fe, List.length_map] at this
    have hbA : ∀ i (hi : i < A.length), (0 ≤ A[i].c.dim ∧ A[i].c.dim ≤ 8) ∧ A[i].c.sd.length ≤ 64 ∧ ∀ r ∈ A[i].c.sd, r.2 = 1 ∨ r.2 = -1 := fun i hi => RA.bds (List.mem_map.2 ⟨_, List.getElem_mem hi, rfl⟩)
    have hbB : ∀ i (hi : i < B.length), (0 ≤ B[i].c.dim ∧ B[i].c.dim ≤ 8) ∧ B[i].c.sd.length ≤ 64 ∧ ∀ r ∈ B[i].c.sd, r.2 = 1 ∨ r.2 = -1 := fun i hi => RB.bds (List.mem_map.2 ⟨_, List.getElem_mem hi, rfl⟩)
    have hAB : A.length * B.length ≤ 4000 := by
     have e : ((A.length * B.length : Nat) : Int) = (A.length : Int) * (B.length : Int) := Int.natCast_mul _ _
     omega
    have hsA := fun a ha => (hsA a ha).up (Hp.le_trans l4 (Hp.le_trans l5 l6))
    have hsB := fun a ha => (hsB a ha).up l6
    refine Ai (Ad (Az (Qm rfl (Qx (AC hQB.rd.any rfl underlying27 rfl) rfl (Qm rfl (BG (C4 [.slice none 0 0] rfl Bi rfl rfl (fun g10 => An (Bz ?_)))))))))
    refine AV (fun sl h' ms' => ∃ (vO : Value) (mO : Hp) (O : List Ce), sl = [(4, .pointer (some ⟨g4, 0, none⟩)), (10, .pointer (some ⟨g10, 0, none⟩))] ∧ h6.le h' ∧ ms' = [mO, Bf g10 29 [vO], Bf g4 29 [.slice none 0 0]] ∧ OwnL cC 3 59 mO vO O ∧ O.length = A.length * B.length ∧ (∀ a ∈ O, PC (A.length * B.length) a.c) ∧ ∀ a ∈ O, RdL cD 2 h' [] a.v a.c.sd) ?_ (fun s h ms hI => ?_)
    ·refine Ac (Ab (Qm rfl (An (Ah ?_))))
     refine AD (fun q sl h' ms' => ∃ (i : Nat) (vO : Value) (mO : Hp) (O : List Ce), q = A.length - i ∧ sl = [(4, .pointer (some ⟨g4, 0, none⟩)), (7, rA), (8, rB), (9, .int .i64 B.length), (10, .pointer (some ⟨g10, 0, none⟩)), (11, .int .i64 i)] ∧ h6.le h' ∧ ms' = [mO, Bf g10 29 [vO], Bf g4 29 [.slice none 0 0]] ∧ i ≤ A.length ∧ OwnL cC 3 59 mO vO O ∧ O.length = i * B.length ∧ (∀ a ∈ O, PC (A.length * B.length) a.c) ∧ ∀ a ∈ O, RdL cD 2 h' [] a.v a.c.sd)
      (A.length - 0) _ ⟨0, _, Hp.emp, [], rfl, rfl, Hp.le_refl _, rfl, by omega, OwnL.nil BP, by simp, (fun a ha => nomatch ha), (fun a ha => nomatch ha)⟩ Qs ?_
     rintro q sl h7 ms' ⟨i, vO, mO, O, rfl, rfl, l7, rfl, hi, hO, hOl, hOc, hOs⟩
     have hQA := hQA.up l7
     have hQB := hQB.up l7
     refine Ac (Az (Qm rfl (Qm rfl (Qx (AC hQA.rd.any rfl underlying27 rfl) rfl (Qm rfl (An ?_))))))
     refine Ax rfl (fun hiA => ?_) (fun hiA => ?_)
     ·have hiA : i < A.length := by omega
      refine Ai (Ad ?_)
      refine AV (fun sl h' ms' => ∃ (vO : Value) (mO : Hp) (O : List Ce), sl = [(4, .pointer (some ⟨g4, 0, none⟩)), (7, rA), (8, rB), (9, .int .i64 B.length), (10, .pointer (some ⟨g10, 0, none⟩)), (11, .int .i64 i)] ∧ h7.le h' ∧ ms' = [mO, Bf g10 29 [vO], Bf g4 29 [.slice none 0 0]] ∧ OwnL cC 3 59 mO vO O ∧ O.length = (i + 1) * B.length ∧ (∀ a ∈ O, PC (A.length * B.length) a.c) ∧ ∀ a ∈ O, RdL cD 2 h' [] a.v a.c.sd) ?_ (fun s h ms hI => ?_)
      ·have hiN0 : (i + 1) * B.length ≤ A.length * B.length := Nat.mul_le_mul_right _ (by omega)
       have hiN1 : (i + 1) * B.length = i * B.length + B.length := Nat.succ_mul _ _
       have hiN2 : ((i * B.length : Nat) : Int) = (i : Int) * (B.length : Int) := Int.natCast_mul _ _
       have hiN : 0 ≤ (i : Int) * (B.length : Int) ∧ (i : Int) * (B.length : Int) ≤ 4000 := by omega
       refine Ah (Az (Qm rfl (An (Ah ?_))))
       refine AD (fun q sl h' ms' => ∃ (k : Nat) (vO : Value) (mO : Hp) (O : List Ce), q = B.length - k ∧ sl = [(4, .pointer (some ⟨g4, 0, none⟩)), (7, rA), (8, rB), (9, .int .i64 B.length), (10, .pointer (some ⟨g10, 0, none⟩)), (11, .int .i64 i), (12, .int .i64 k)] ∧ h7.le h' ∧ ms' = [mO, Bf g10 29 [vO], Bf g4 29 [.slice none 0 0]] ∧ k ≤ B.length ∧ OwnL cC 3 59 mO vO O ∧ O.length = i * B.length + k ∧ (∀ a ∈ O, PC (A.length * B.length) a.c) ∧ ∀ a ∈ O, RdL cD 2 h' [] a.v a.c.sd)
        (B.length - 0) _ ⟨0, vO, mO, O, rfl, rfl, Hp.le_refl _, rfl, by omega, hO, hOl, hOc, hOs⟩ Qs ?_
       rintro q sl h8 ms' ⟨k, vO, mO, O, rfl, rfl, l8, rfl, hk, hO, hOl, hOc, hOs⟩
       have hQA := hQA.up l8
       have hQB := hQB.up l8
       have ovO : vO.oneCell' = true := (hO.rd (h := h8) (ms := [mO]) (List.Mem.head _)).rd.one
       have hsA := fun a ha => (hsA a ha).up (Hp.le_trans l7 l8)
       have hsB := fun a ha => (hsB a ha).up (Hp.le_trans l7 l8)
       refine Ac (Az (Qm rfl (Qm rfl (Qm rfl (An ?_)))))
       refine Ax rfl (fun hkB => ?_) (fun hkB => ?_)
       ·have hkB : k < B.length := by omega
        have hdA := (hbA i hiA).1
        have hdB := (hbB k hkB).1
        have cA1 : ∀ ms, Cell h8 ms (((AI rA).add (i * 3)).add 1) (.int .i64 A[i].c.dim) := fun ms => (hQA.any (ms := ms)).cell hiA (f := 1) rfl
        have cB1 : ∀ ms, Cell h8 ms (((AI rB).add (k * 3)).add 1) (.int .i64 B[k].c.dim) := fun ms => (hQB.any (ms := ms)).cell hkB (f := 1) rfl
        refine Ai (Ad (Ac (Ah (Ac (Bb 19 CN (by kernel_rfl) rfl (Wm rfl (Wm rfl (AM (oM rfl) rfl rfl (Wm rfl (AM (oA rfl) rfl rfl (AM (oA rfl) rfl rfl (Wm rfl (Wm rfl (AM (Af (i) hQA.rd.any rfl underlying27 AH rfl rfl (by omega) (by omega)) rfl rfl (Wf BC rfl (Wl rfl underlying3 (cA1 _) (Wm rfl (Wm rfl (AM (Af (k) hQB.rd.any rfl underlying27 AH rfl rfl (by omega) (by omega)) rfl rfl (Wf BC rfl (Wl rfl underlying3 (cB1 _) (AM (oA rfl) rfl rfl (AM (A6 KE [.int .i64 0, .int .i64 0, .slice none 0 0] [(0, _), (1, _)] [_, _, _] rfl AH rfl rfl Qt rfl) rfl rfl (Uw (KP [.int .i64 0, .int .i64 0, .slice none 0 0] rfl AH rfl) rfl rfl (Hz (fun g13 => ?_))))))))))))))))))))))))))
        refine Sa 0 [_, _, _] AH rfl (by simp [Value.oneCell']) ?_
        refine An (Bz ?_)
        obtain ⟨X, hX⟩ : ∃ X : Int, (i : Int) * (B.length : Int) + (k : Int) + 1 = X := ⟨_, rfl⟩
        obtain ⟨D, hD⟩ : ∃ D : Int, A[i].c.dim + B[k].c.dim = D := ⟨_, rfl⟩
        rw [hX, hD]
        refine AV (fun sl h' ms' => ∃ (vS : Value) (mS : Hp) (L : List (Int × Int)), sl = [(4, .pointer (some ⟨g4, 0, none⟩)), (7, rA), (8, rB), (9, .int .i64 B.length), (10, .pointer (some ⟨g10, 0, none⟩)), (11, .int .i64 i), (12, .int .i64 k), (13, .pointer (some ⟨g13, 0, none⟩))] ∧ h8.le h' ∧ ms' = [mS, Bf g13 59 [.int .i64 X, .int .i64 D, vS], mO, Bf g10 29 [vO], Bf g4 29 [.slice none 0 0]] ∧ OwnL cD 2 81 mS vS L ∧ L.length = A[i].c.sd.length) ?_ (fun s h ms hI => ?_)
        ·have hSd := hsA _ (List.getElem_mem hiA)
         have ovd := hSd.rd.one
         refine Az (Qm rfl (An (Ah ?_)))
         refine AD (fun q sl h' ms' => ∃ (j : Nat) (vS : Value) (mS : Hp) (L : List (Int × Int)), q = A[i].c.sd.length - j ∧ sl = [(4, .pointer (some ⟨g4, 0, none⟩)), (7, rA), (8, rB), (9, .int .i64 B.length), (10, .pointer (some ⟨g10, 0, none⟩)), (11, .int .i64 i), (12, .int .i64 k), (13, .pointer (some ⟨g13, 0, none⟩)), (14, .int .i64 j)] ∧ h8.le h' ∧ ms' = [mS, Bf g13 59 [.int .i64 X, .int .i64 D, vS], mO, Bf g10 29 [vO], Bf g4 29 [.slice none 0 0]] ∧ j ≤ A[i].c.sd.length ∧ OwnL cD 2 81 mS vS L ∧ L.length = j)
          (A[i].c.sd.length - 0) _ ⟨0, _, Hp.emp, [], rfl, rfl, Hp.le_refl _, rfl, by omega, OwnL.nil Cj, rfl⟩ Qs ?_
         rintro q sl h9 ms' ⟨j, vS, mS, L, rfl, rfl, l9, rfl, hj, hOS, hLl⟩
         have hQA := hQA.up l9
         have hQB := hQB.up l9
         have hSd := hSd.up l9
         have c2 : ∀ ms, Cell h9 ms (((AI rA).add (i * 3)).add 2) A[i].v := fun ms => (hQA.any (ms := ms)).cell hiA (f := 2) rfl
         have ovS : vS.oneCell' = true := (hOS.rd (h := h9) (ms := [mS]) (List.Mem.head _)).rd.one
         have hs64 := (hbA i hiA).2.1
         refine Ac (Az (Qm rfl (Qm rfl (Qm rfl (Qx (Af (i) hQA.rd.any rfl underlying27 AH rfl rfl (by omega) (by omega)) rfl (Qf Bl rfl (Ql rfl underlying57 (c2 _) (Qx (AC hSd.rd.any rfl underlying57 rfl) rfl (Qm rfl (An ?_))))))))))
         refine Ax rfl (fun hjs => ?_) (fun hjs => ?_)
         ·have hjs : j < A[i].c.sd.length := by omega
          obtain ⟨sd, hsd⟩ : ∃ sd, A[i].c.sd[j] = sd := ⟨_, rfl⟩
          have hsg : sd.2 = 1 ∨ sd.2 = -1 := by rw [← hsd]; exact (hbA i hiA).2.2 _ (List.getElem_mem hjs)
          have hcs : ∀ ms, Seg h9 ms ((AI A[i].v).add (j * 2)) (cD sd) := fun ms => by rw [← hsd]; exact (hSd.any (ms := ms)).seg hjs
          refine Ai (Ad ?_)
          refine AV (fun sl h' ms' => ∃ (vS : Value) (mS : Hp) (L : List (Int × Int)), sl = [(4, .pointer (some ⟨g4, 0, none⟩)), (7, rA), (8, rB), (9, .int .i64 B.length), (10, .pointer (some ⟨g10, 0, none⟩)), (11, .int .i64 i), (12, .int .i64 k), (13, .pointer (some ⟨g13, 0, none⟩)), (14, .int .i64 j)] ∧ h9.le h' ∧ ms' = [mS, Bf g13 59 [.int .i64 X, .int .i64 D, vS], mO, Bf g10 29 [vO], Bf g4 29 [.slice none 0 0]] ∧ OwnL cD 2 81 mS vS L ∧ L.length = j + 1) ?_ (fun s h ms hI => ?_)
          ·refine Ah (Az (Qm rfl (Qm rfl (Qx (Af (i) hQA.rd.any rfl underlying27 AH rfl rfl (by omega) (by omega)) rfl (Qf Bl rfl (Ql rfl underlying57 (c2 _) (Qm rfl (Qx (Af (j) hSd.rd.any rfl underlying57 AR rfl rfl (by omega) (by omega)) rfl (Qx (oG rfl underlying81 AR (hcs _)) rfl (C4 [.int .i64 0, .int .i64 0] rfl AR rfl rfl (fun g15 => ?_)))))))))))
           refine Sa 0 [_, _] AR rfl (by simp [Value.oneCell']) ?_
           refine An (AA fun ha k1 hS15 => ?_)
           have hQA := hQA.up k1
           have hQB := hQB.up k1
           have e0 := Seg.all hS15 0 _ rfl
           have e1 := Seg.all hS15 1 _ rfl
           obtain ⟨T, hT⟩ : ∃ T, Im (A.map Ce.c) sd.1 = T := ⟨_, rfl⟩
           have hT1 : -1 ≤ T := by rw [← hT]; exact Sp _ _
           have hT2 : T < A.length := by rw [← hT]; have := JF (A.map Ce.c) sd.1; rwa [List.length_map] at this
           have hT3 : -100000 ≤ T * (B.length : Int) ∧ T * (B.length : Int) ≤ 10000000000 := QO hT1 (by omega) (by omega)
           have hat : ∀ ms, FnV Tryz.prog 44 #[rA, .int .i64 sd.1] ha ms (.int .i64 T) := fun ms => by rw [← hT]; exact UF A rA sd.1 ha (by omega) (RA.inc.imp fun q => Int.le_of_lt q) hQA ms
           refine B4 (n := 18) (bs := [true, false, true, true, true, true, true, true, true, true, true, true, true, true, false, false, true, false]) [true, false, true, true, true, true, true, true, true, true, true, true, true, true, false, false, true] CN (by kernel_rfl) (by kernel_rfl) rfl rfl (QF Bl rfl (Qq rfl (QF Cc rfl (QL rfl underlying3 (e0 _) (Qp rfl (AG rfl call44 rfl (hat _)) (Qq rfl (Qp rfl (oM rfl) (Qq rfl (Qp rfl (oA rfl) (Qp rfl (oA rfl) (QF Cv rfl (QL rfl underlying3 (e1 _) (Qp rfl (A6 Ou [.int .i64 0, .int .i64 0] [(0, _), (1, _)] [_, _] rfl AR rfl rfl Qt rfl) (QF Bl rfl ?_))))))))))))))
           unfold GI
           simp only [List.cons_append, List.nil_append]
           refine A0 [1, 14] (by kernel_rfl) rfl ?_
           refine AB rfl ?_ ?_
           ·refine Ql rfl underlying57 (Cell.blk 1 rfl rfl) (Qw (Qo 14 rfl ?_))
            refine Ao [_, _] rfl underlying57 AR rfl (by rfl) rfl rfl (by omega) rfl rfl rfl (fun g105 => ?_)
            refine Qw (Qo 15 rfl ?_)
            refine AJ 1 hOS (RdL.one Cj (x := (T * (B.length : Int) + (k : Int) + 1, sd.2)) (List.Mem.head _) rfl) rfl underlying57 AR rfl (by omega) rfl rfl rfl Do (by (try simp only [List.length_singleton]); omega) (by (try simp only [List.length_singleton]); omega) rfl rfl rfl (fun v6 m6 hO6 => ?_)
            have ov6 : v6.oneCell' = true := (hO6.rd (h := ha) (ms := [m6]) (List.Mem.head _)).rd.one
            refine Qw (Qo 17 rfl ?_)
            refine AK 2 _ rfl NW rfl rfl (by assumption) rfl rfl (by (simp; done)) rfl rfl ?_
            refine Qw (Qe ?_)
            refine AS (Aj ?_)
            exact Ay _ ⟨v6, m6, _, rfl, k1, rfl, hO6, by rw [List.length_append, hLl]; rfl⟩ Qs
           refine AB rfl ?_ ?_
           ·refine Ao [_, _] rfl underlying57 AR rfl (by rfl) rfl rfl (by omega) rfl rfl rfl (fun g105 => ?_)
            refine Qw (Qo 1 rfl (Ql rfl underlying57 (Cell.blk 2 rfl rfl) (Qw (Qo 15 rfl ?_))))
            refine AJ 1 hOS (RdL.one Cj (x := (T * (B.length : Int) + (k : Int) + 1, sd.2)) (List.Mem.head _) rfl) rfl underlying57 AR rfl (by omega) rfl rfl rfl Do (by (try simp only [List.length_singleton]); omega) (by (try simp only [List.length_singleton]); omega) rfl rfl rfl (fun v6 m6 hO6 => ?_)
            have ov6 : v6.oneCell' = true := (hO6.rd (h := ha) (ms := [m6]) (List.Mem.head _)).rd.one
            refine Qw (Qo 17 rfl ?_)
            refine AK 2 _ rfl NW rfl rfl (by assumption) rfl rfl (by (simp; done)) rfl rfl ?_
            refine Qw (Qe ?_)
            refine AS (Aj ?_)
            exact Ay _ ⟨v6, m6, _, rfl, k1, rfl, hO6, by rw [List.length_append, hLl]; rfl⟩ Qs
           exact A3
          ·obtain ⟨vS, mS, L, rfl, k1, rfl, hOS, hLl⟩ := hI
           refine Ab (Qm rfl (Qx (oA rfl) rfl (Qm rfl (Ak ?_))))
           exact Am (A[i].c.sd.length - (j + 1)) _ (by omega) ⟨j + 1, vS, mS, L, rfl, rfl, Hp.le_trans l9 k1, rfl, by omega, hOS, hLl⟩ Qs
         ·obtain rfl : j = A[i].c.sd.length := by omega
          refine Aw (Aa (Aa (Ag ?_)))
          exact Ay _ ⟨vS, mS, L, rfl, l9, rfl, hOS, hLl⟩ Qs
        ·obtain ⟨vS, mS, L, rfl, l9, rfl, hOS, hLl⟩ := hI
         have hQA := hQA.up l9
         have hQB := hQB.up l9
         have hlA64 := (hbA i hiA).2.1
         refine AV (fun sl h' ms' => ∃ (vS : Value) (mS : Hp) (L : List (Int × Int)), sl = [(4, .pointer (some ⟨g4, 0, none⟩)), (7, rA), (8, rB), (9, .int .i64 B.length), (10, .pointer (some ⟨g10, 0, none⟩)), (11, .int .i64 i), (12, .int .i64 k), (13, .pointer (some ⟨g13, 0, none⟩))] ∧ h.le h' ∧ ms' = [mS, Bf g13 59 [.int .i64 X, .int .i64 D, vS], mO, Bf g10 29 [vO], Bf g4 29 [.slice none 0 0]] ∧ OwnL cD 2 81 mS vS L ∧ L.length = A[i].c.sd.length + B[k].c.sd.length) ?_ (fun s h ms hI => ?_)
         ·have hSd := (hsB _ (List.getElem_mem hkB)).up l9
          have ovd := hSd.rd.one
          refine Az (Qm rfl (An (Ah ?_)))
          refine AD (fun q sl h' ms' => ∃ (j : Nat) (vS : Value) (mS : Hp) (L : List (Int × Int)), q = B[k].c.sd.length - j ∧ sl = [(4, .pointer (some ⟨g4, 0, none⟩)), (7, rA), (8, rB), (9, .int .i64 B.length), (10, .pointer (some ⟨g10, 0, none⟩)), (11, .int .i64 i), (12, .int .i64 k), (13, .pointer (some ⟨g13, 0, none⟩)), (16, .int .i64 j)] ∧ h.le h' ∧ ms' = [mS, Bf g13 59 [.int .i64 X, .int .i64 D, vS], mO, Bf g10 29 [vO], Bf g4 29 [.slice none 0 0]] ∧ j ≤ B[k].c.sd.length ∧ OwnL cD 2 81 mS vS L ∧ L.length = A[i].c.sd.length + j)
           (B[k].c.sd.length - 0) _ ⟨0, vS, mS, L, rfl, rfl, Hp.le_refl _, rfl, by omega, hOS, hLl⟩ Qs ?_
          rintro q sl hb ms' ⟨j, vS, mS, L, rfl, rfl, lb, rfl, hj, hOS, hLl⟩
          have hQA := hQA.up lb
          have hQB := hQB.up lb
          have hSd := hSd.up lb
          have c2 : ∀ ms, Cell hb ms (((AI rB).add (k * 3)).add 2) B[k].v := fun ms => (hQB.any (ms := ms)).cell hkB (f := 2) rfl
          have ovS : vS.oneCell' = true := (hOS.rd (h := hb) (ms := [mS]) (List.Mem.head _)).rd.one
          have hs64 := (hbB k hkB).2.1
          refine Ac (Az (Qm rfl (Qm rfl (Qm rfl (Qx (Af (k) hQB.rd.any rfl underlying27 AH rfl rfl (by omega) (by omega)) rfl (Qf Bl rfl (Ql rfl underlying57 (c2 _) (Qx (AC hSd.rd.any rfl underlying57 rfl) rfl (Qm rfl (An ?_))))))))))
          refine Ax rfl (fun hjs => ?_) (fun hjs => ?_)
          ·have hjs : j < B[k].c.sd.length := by omega
           obtain ⟨sd, hsd⟩ : ∃ sd, B[k].c.sd[j] = sd := ⟨_, rfl⟩
           have hsg : sd.2 = 1 ∨ sd.2 = -1 := by rw [← hsd]; exact (hbB k hkB).2.2 _ (List.getElem_mem hjs)
           have hcs : ∀ ms, Seg hb ms ((AI B[k].v).add (j * 2)) (cD sd) := fun ms => by rw [← hsd]; exact (hSd.any (ms := ms)).seg hjs
           refine Ai (Ad ?_)
           refine AV (fun sl h' ms' => ∃ (vS : Value) (mS : Hp) (L : List (Int × Int)), sl = [(4, .pointer (some ⟨g4, 0, none⟩)), (7, rA), (8, rB), (9, .int .i64 B.length), (10, .pointer (some ⟨g10, 0, none⟩)), (11, .int .i64 i), (12, .int .i64 k), (13, .pointer (some ⟨g13, 0, none⟩)), (16, .int .i64 j)] ∧ hb.le h' ∧ ms' = [mS, Bf g13 59 [.int .i64 X, .int .i64 D, vS], mO, Bf g10 29 [vO], Bf g4 29 [.slice none 0 0]] ∧ OwnL cD 2 81 mS vS L ∧ L.length = A[i].c.sd.length + (j + 1)) ?_ (fun s h ms hI => ?_)
           ·refine Ah (Az (Qm rfl (Qm rfl (Qx (Af (k) hQB.rd.any rfl underlying27 AH rfl rfl (by omega) (by omega)) rfl (Qf Bl rfl (Ql rfl underlying57 (c2 _) (Qm rfl (Qx (Af (j) hSd.rd.any rfl underlying57 AR rfl rfl (by omega) (by omega)) rfl (Qx (oG rfl underlying81 AR (hcs _)) rfl (C4 [.int .i64 0, .int .i64 0] rfl AR rfl rfl (fun g17 => ?_)))))))))))
            refine Sa 0 [_, _] AR rfl (by simp [Value.oneCell']) ?_
            refine An (AA fun ha k1 hS15 => ?_)
            have hQA := hQA.up k1
            have hQB := hQB.up k1
            have cd1 : ∀ ms, Cell ha ms (((AI rA).add (i * 3)).add 1) (.int .i64 A[i].c.dim) := fun ms => (hQA.any (ms := ms)).cell hiA (f := 1) rfl
            have hmu : -1 ≤ sd.2 * (1 - 2 * (A[i].c.dim % 2)) ∧ sd.2 * (1 - 2 * (A[i].c.dim % 2)) ≤ 1 := by
             rcases hsg with e | e <;> rw [e] <;> omega
            have e0 := Seg.all hS15 0 _ rfl
            have e1 := Seg.all hS15 1 _ rfl
            obtain ⟨T, hT⟩ : ∃ T, Im (B.map Ce.c) sd.1 = T := ⟨_, rfl⟩
            have hT1 : -1 ≤ T := by rw [← hT]; exact Sp _ _
            have hT2 : T < B.length := by rw [← hT]; have := JF (B.map Ce.c) sd.1; rwa [List.length_map] at this
            have hT3 : -100000 ≤ T * (B.length : Int) ∧ T * (B.length : Int) ≤ 10000000000 := QO hT1 (by omega) (by omega)
            have hat : ∀ ms, FnV Tryz.prog 44 #[rB, .int .i64 sd.1] ha ms (.int .i64 T) := fun ms => by rw [← hT]; exact UF B rB sd.1 ha (by omega) (RB.inc.imp fun q => Int.le_of_lt q) hQB ms
            refine B4 (n := 27) (bs := [true, false, true, true, true, true, true, true, true, true, true, true, true, true, true, true, true, true, true, true, true, true, true, false, false, true, false]) [true, false, true, true, true, true, true, true, true, true, true, true, true, true, true, true, true, true, true, true, true, true, true, false, false, true] CN (by kernel_rfl) (by kernel_rfl) rfl rfl (QF Bl rfl (Qq rfl (Qq rfl (Qp rfl (oM rfl) (Qq rfl (QF Cc rfl (QL rfl underlying3 (e0 _) (Qp rfl (AG rfl call44 rfl (hat _)) (Qp rfl (oA rfl) (Qp rfl (oA rfl) (QF Cv rfl (QL rfl underlying3 (e1 _) (Qq rfl (Qq rfl (Qp rfl (Af (i) hQA.rd.any rfl underlying27 AH rfl rfl (by omega) (by omega)) (QF BC rfl (QL rfl underlying3 (cd1 _) (Qp rfl (B5 rfl rfl rfl (by omega) (by omega)) (Qp rfl (oM rfl) (Qp rfl (oS rfl) (Qp rfl (oM rfl) (Qp rfl (A6 Ou [.int .i64 0, .int .i64 0] [(0, _), (1, _)] [_, _] rfl AR rfl rfl Qt rfl) (QF Bl rfl ?_)))))))))))))))))))))))
            unfold GI
            simp only [List.cons_append, List.nil_append]
            refine A0 [1, 23] (by kernel_rfl) rfl ?_
            refine AB rfl ?_ ?_
            ·refine Ql rfl underlying57 (Cell.blk 1 rfl rfl) (Qw (Qo 23 rfl ?_))
             refine Ao [_, _] rfl underlying57 AR rfl (by rfl) rfl rfl (by omega) rfl rfl rfl (fun g149 => ?_)
             refine Qw (Qo 24 rfl ?_)
             refine AJ 1 hOS (RdL.one Cj (x := ((i : Int) * (B.length : Int) + T + 1, sd.2 * (1 - 2 * (A[i].c.dim % 2)))) (List.Mem.head _) rfl) rfl underlying57 AR rfl (by omega) rfl rfl rfl Do (by (try simp only [List.length_singleton]); omega) (by (try simp only [List.length_singleton]); omega) rfl rfl rfl (fun v6 m6 hO6 => ?_)
             have ov6 : v6.oneCell' = true := (hO6.rd (h := ha) (ms := [m6]) (List.Mem.head _)).rd.one
             refine Qw (Qo 26 rfl ?_)
             refine AK 2 _ rfl NW rfl rfl (by assumption) rfl rfl (by (simp; done)) rfl rfl ?_
             refine Qw (Qe ?_)
             refine AS (Aj ?_)
             exact Ay _ ⟨v6, m6, _, rfl, k1, rfl, hO6, by rw [List.length_append, hLl]; rfl⟩ Qs
            refine AB rfl ?_ ?_
            ·refine Ao [_, _] rfl underlying57 AR rfl (by rfl) rfl rfl (by omega) rfl rfl rfl (fun g149 => ?_)
             refine Qw (Qo 1 rfl (Ql rfl underlying57 (Cell.blk 2 rfl rfl) (Qw (Qo 24 rfl ?_))))
             refine AJ 1 hOS (RdL.one Cj (x := ((i : Int) * (B.length : Int) + T + 1, sd.2 * (1 - 2 * (A[i].c.dim % 2)))) (List.Mem.head _) rfl) rfl underlying57 AR rfl (by omega) rfl rfl rfl Do (by (try simp only [List.length_singleton]); omega) (by (try simp only [List.length_singleton]); omega) rfl rfl rfl (fun v6 m6 hO6 => ?_)
             have ov6 : v6.oneCell' = true := (hO6.rd (h := ha) (ms := [m6]) (List.Mem.head _)).rd.one
             refine Qw (Qo 26 rfl ?_)
             refine AK 2 _ rfl NW rfl rfl (by assumption) rfl rfl (by (simp; done)) rfl rfl ?_
             refine Qw (Qe ?_)
             refine AS (Aj ?_)
             exact Ay _ ⟨v6, m6, _, rfl, k1, rfl, hO6, by rw [List.length_append, hLl]; rfl⟩ Qs
            exact A3
           ·obtain ⟨vS, mS, L, rfl, k1, rfl, hOS, hLl⟩ := hI
            refine Ab (Qm rfl (Qx (oA rfl) rfl (Qm rfl (Ak ?_))))
            exact Am (B[k].c.sd.length - (j + 1)) _ (by omega) ⟨j + 1, vS, mS, L, rfl, rfl, Hp.le_trans lb k1, rfl, by omega, hOS, hLl⟩ Qs
          ·obtain rfl : j = B[k].c.sd.length := by omega
           refine Aw (Aa (Aa (Ag ?_)))
           exact Ay _ ⟨vS, mS, L, rfl, lb, rfl, hOS, hLl⟩ Qs
         ·obtain ⟨vS, mS, L, rfl, lb, rfl, hOS, hLl⟩ := hI
          have hlB64 := (hbB k hkB).2.1
          refine BA fun hc lc kc => ?_
          have hRS := hOS.rdh (ms := []) kc
          have ovS := hRS.rd.one
          let ce : Ce := ⟨⟨X, D, L⟩, vS⟩
          refine Ab (Qf BX rfl (Ql rfl underlying27 (Cell.blk 2 rfl rfl) (Qx (oG rfl underlying59 AH (Seg.blk 0 rfl)) rfl ?_)))
          refine Ao [_, _, _] rfl underlying27 AH rfl (by rfl) rfl rfl (by omega) rfl rfl rfl (fun g155 => ?_)
          refine Bh 2 hO (RdL.one BP (x := ce) (List.Mem.head _) rfl) rfl underlying27 AH rfl (by omega) rfl rfl rfl (Db (l := [ce]) (h := hc) fun y hy => by rw [List.mem_singleton.1 hy]; exact hRS) (by (try simp only [List.length_singleton]); omega) (by (try simp only [List.length_singleton]); omega) rfl rfl rfl (fun v9 m9 hO9 => ?_)
          have ov9 : v9.oneCell' = true := (hO9.rd (h := hc) (ms := [m9]) (List.Mem.head _)).rd.one
          refine Qf BX rfl ?_
          refine AK 3 _ rfl KL rfl rfl (by assumption) rfl rfl (by (simp; done)) rfl rfl ?_
          refine Ak (Aj (Ad (Ab (Qm rfl (Qx (oA rfl) rfl (Qm rfl (Ak (Bn 0 rfl (Bn 0 rfl ?_)))))))))
          have l8c := Hp.le_trans l9 (Hp.le_trans lb lc)
          have hce : PC (A.length * B.length) ce.c := ⟨by show X ≤ _; rw [← hX]; omega, by show 0 ≤ D ∧ D ≤ 16; omega, by show L.length ≤ 128; omega⟩
          exact Am (B.length - (k + 1)) _ (by omega) ⟨k + 1, v9, m9, O ++ [ce], rfl, rfl, Hp.le_trans l8 l8c, rfl, by omega, hO9, by rw [List.length_append, hOl]; rfl, fun a ha => by
           rcases List.mem_append.1 ha with h | h
           ·exact hOc a h
           ·rw [List.mem_singleton.1 h]; exact hce, fun a ha => by
           rcases List.mem_append.1 ha with h | h
           ·exact (hOs a h).up l8c
           ·rw [List.mem_singleton.1 h]; exact hRS⟩ Qs
       ·obtain rfl : k = B.length := by omega
        refine Aw (Aa (Aa (Ag (Aj ?_))))
        exact Ay _ ⟨vO, mO, O, rfl, l8, rfl, hO, by rw [hOl, hiN1], hOc, hOs⟩ Qs
      ·obtain ⟨vO, mO, O, rfl, l8, rfl, hO, hOl, hOc, hOs⟩ := hI
       refine Ab (Qm rfl (Qx (oA rfl) rfl (Qm rfl (Ak ?_))))
       exact Am (A.length - (i + 1)) _ (by omega) ⟨i + 1, vO, mO, O, rfl, rfl, Hp.le_trans l7 l8, rfl, by omega, hO, hOl, hOc, hOs⟩ Qs
     ·obtain rfl : i = A.length := by omega
      refine Aw (Aa (Aa (Ag ?_)))
      exact Ay _ ⟨vO, mO, O, rfl, l7, rfl, hO, hOl, hOc, hOs⟩ Qs
    ·obtain ⟨vO, mO, O, rfl, l7, rfl, hO, hOl, hOc, hOs⟩ := hI
     refine BA fun h8 l8 k8 => (AA fun h9 l9 hS10 => ?_)
     have hR : RdC h9 vO O := ⟨hO.rdh (Hp.le_trans k8 l9), fun a ha => (hOs a ha).up (Hp.le_trans l8 l9)⟩
     have ovO := hR.q.rd.one
     have hK : MP O := ⟨⟨by omega, fun a ha => by have := (hOc a ha).n; omega⟩, fun a ha => by have := (hOc a ha).d; omega⟩
     have hle : hp.le h9 := Hp.le_trans hle (Hp.le_trans l7 (Hp.le_trans l8 l9))
     refine Az (Qx (oG rfl underlying29 Bi (Seg.any hS10)) rfl (Qx (AG rfl call42 rfl (Iv O vO h9 hK hR _)) rfl (Qm rfl (An (Ac (Az (Qm rfl (Qm rfl (An ?_)))))))))
     refine Bu rfl (fun hfine => ?_) (fun hfine => ?_)
     ·refine Ac (Ab (Qx (A6 Po [.slice none 0 0] [] [_] rfl Bi rfl rfl Qt rfl) rfl ?_))
      refine Sa 0 [_] Bi rfl (by simp [Value.oneCell']) ?_
      refine An (Aq (Ae (Is ?_)))
      exact C7 (vs := [_]) 1 rfl rfl underlying29 rfl Bi rfl rfl (⟨hle, Hp.emp, [], _, rfl, rfl, OwnL.nil BP, (fun a ha => nomatch ha), .inl rfl⟩)
     ·have hfine : (CW (O.map Ce.c)).2 = 0 := by simpa using hfine
      have hid : ∀ c ∈ O.map Ce.c, c.id ≤ ((la.length * lb.length : Nat) : Int) := fun c hc => by
       obtain ⟨a, ha, rfl⟩ := List.mem_map.1 hc
       have := (hOc a ha).i
       rwa [lA, lB] at this
      refine Ai (Ad (Az (Qx (oG rfl underlying29 Bi (Seg.any hS10)) rfl (Qc call45 rfl (Ki O vO h9 hK.toCsOk hR) (fun rC h10 ms10 l10 hF => ?_)))))
      obtain ⟨l10', mC, C, vC, rfl, rfl, hOC, hC, hsC⟩ := hF
      have ovC : vC.oneCell' = true := (hOC.rd (h := h10) (ms := [mC]) (List.Mem.head _)).rd.one
      refine Sa 1 [_] Bi rfl (by simp [o1, o2, oA_, oB, ovO, ovC]) ?_
      refine An (Aq ?_)
      exact C7 (vs := [_]) 1 rfl rfl underlying29 rfl Bi rfl rfl (⟨Hp.le_trans hle l10, mC, C, _, rfl, rfl, hOC, hsC, .inr ⟨_, hC, hfine, by rw [List.length_map, hOl, lA, lB], hid⟩⟩)
def O9 (i : Nat) : Cl := ⟨(i : Int) + 1, 0, []⟩
def Th (n i : Nat) : Cl := ⟨(n : Int) + (i : Int) + 1, 1, [((i : Int) + 1, -1), (((i : Int) + 1) % (n : Int) + 1, 1)]⟩
def CC (n m : Nat) : List (Int × Int) := (List.range m).map fun (i : Nat) => ((n : Int) + (i : Int) + 1, 1)
def Ep (n : Nat) : List Cl := (List.range n).map O9 ++ (List.range n).map (Th n) ++ [⟨2 * (n : Int) + 1, 2, CC n n⟩] ++ (if n % 2 = 0 then [⟨2 * (n : Int) + 2, 2, CC n n⟩] else [])
theorem RdC.snoc' {h : Hp} {A : List Ce} (hA : ∀ a ∈ A, RdL cD 2 h [] a.v a.c.sd) {c : Ce} (hc : RdL cD 2 h [] c.v c.c.sd) : ∀ a ∈ A ++ [c], RdL cD 2 h [] a.v a.c.sd := fun a ha => by
 rcases List.mem_append.1 ha with h | h
 ·exact hA a h
 ·rw [List.mem_singleton.1 h]; exact hc
theorem R8 (n m : Nat) : CC n (m + 1) = CC n m ++ [((n : Int) + (m : Int) + 1, 1)] := by
 unfold CC; rw [List.range_succ, List.map_append]; rfl
theorem H9 (n m : Nat) : (CC n m).length = m := by simp [CC]
theorem Ti (n : Nat) : ∀ c ∈ Ep n, c.sd.length ≤ n + 2 := fun c hc => by
 unfold Ep at hc
 rw [List.mem_append, List.mem_append, List.mem_append] at hc
 rcases hc with ((hc | hc) | hc) | hc
 ·obtain ⟨i, _, rfl⟩ := List.mem_map.1 hc; exact Nat.zero_le _
 ·obtain ⟨i, _, rfl⟩ := List.mem_map.1 hc; show 2 ≤ n + 2; omega
 ·rw [List.mem_singleton.1 hc]; show (CC n n).length ≤ _; rw [H9]; omega
 ·split at hc
  ·rw [List.mem_singleton.1 hc]; show (CC n n).length ≤ _; rw [H9]; omega
  ·cases hc
theorem OU (n : Nat) (hp : Hp) (hn : 1 ≤ n ∧ n ≤ 60) : FnT Tryz.prog 19 #[.int .i64 n] hp [] (fun r h' ms' => hp.le h' ∧ ∃ m A v', ms' = [m] ∧ r = .agg #[v'] ∧ OwnL cC 3 59 m v' A ∧ A.map Ce.c = ordF (Ep n) ∧ ∀ a ∈ A, RdL cD 2 h' [] a.v a.c.sd) := by
 refine Av func19 ntmps19 rfl rfl (fun w0 hw0 => ?_)
 simp only [A5]
 refine Az (C4 [.slice none 0 0] rfl Bi rfl rfl (fun g2 => BG (C4 [.slice none 0 0] rfl Bi rfl rfl (fun g3 => An (Bz ?_)))))
 refine AV (fun sl h' ms' => ∃ (vO : Value) (mO : Hp) (O : List Ce), sl = [(0, .int .i64 n), (2, .pointer (some ⟨g2, 0, none⟩)), (3, .pointer (some ⟨g3, 0, none⟩))] ∧ hp = h' ∧ ms' = [mO, Bf g3 29 [vO], Bf g2 29 [.slice none 0 0]] ∧ OwnL cC 3 59 mO vO O ∧ O.map Ce.c = (List.range n).map O9 ∧ ∀ a ∈ O, RdL cD 2 h' [] a.v a.c.sd) ?_ (fun s h ms hI => ?_)
 ·refine Ac (Ab (Qm rfl (An (Ah ?_))))
  refine AD (fun q sl h' ms' => ∃ (i : Nat) (vO : Value) (mO : Hp) (O : List Ce), q = n - i ∧ sl = [(0, .int .i64 n), (2, .pointer (some ⟨g2, 0, none⟩)), (3, .pointer (some ⟨g3, 0, none⟩)), (4, .int .i64 i)] ∧ hp = h' ∧ ms' = [mO, Bf g3 29 [vO], Bf g2 29 [.slice none 0 0]] ∧ i ≤ n ∧ OwnL cC 3 59 mO vO O ∧ O.map Ce.c = (List.range i).map O9 ∧ ∀ a ∈ O, RdL cD 2 h' [] a.v a.c.sd)
   (n - 0) _ ⟨0, _, Hp.emp, [], rfl, rfl, rfl, rfl, by omega, OwnL.nil BP, rfl, fun a ha => nomatch ha⟩ Qs ?_
  rintro q sl h' ms' ⟨i, vO, mO, O, rfl, rfl, rfl, rfl, hi, hO, hOc, hOs⟩
  have ovO : vO.oneCell' = true := (hO.rd (h := hp) (ms := [mO]) (List.Mem.head _)).rd.one
  have hOl : O.length = i := by have := congrArg List.length hOc; simpa using this
  refine Ac (Az (Qm rfl (Qm rfl (Qm rfl (An ?_)))))
  refine Ax rfl (fun hin => ?_) (fun hin => ?_)
  ·let ce : Ce := ⟨O9 i, .slice none 0 0⟩
   have hce : ∀ h, RdL cD 2 h [] ce.v ce.c.sd := fun h => ⟨Rd.nil _ _ _, Cj⟩
   refine Ai (Ad (Ac (Ah (Ab (Qf BX rfl (Ql rfl underlying27 (Cell.blk 1 rfl rfl) (Qm rfl (Qx (oA rfl) rfl (Qx (A6 KE [.int .i64 0, .int .i64 0, .slice none 0 0] [(0, _)] [_, _, _] rfl AH rfl rfl Qt rfl) rfl ?_)))))))))
   refine Ao [_, _, _] rfl underlying27 AH rfl (by rfl) rfl rfl (by omega) rfl rfl rfl (fun g19 => ?_)
   refine Bh 1 hO (RdL.one BP (x := ce) (List.Mem.head _) rfl) rfl underlying27 AH rfl (by omega) rfl rfl rfl (Db (l := [ce]) (h := hp) fun y hy => by rw [List.mem_singleton.1 hy]; exact hce _) (by (try simp only [List.length_singleton]); omega) (by (try simp only [List.length_singleton]); omega) rfl rfl rfl (fun v9 m9 hO9 => ?_)
   have ov9 : v9.oneCell' = true := (hO9.rd (h := hp) (ms := [m9]) (List.Mem.head _)).rd.one
   refine Qf BX rfl ?_
   refine AK 2 _ rfl KL rfl rfl (by assumption) rfl rfl (by (simp; done)) rfl rfl ?_
   refine Ak (Aj (Ad (Ab (Qm rfl (Qx (oA rfl) rfl (Qm rfl (Ak (Bn 0 rfl ?_))))))))
   exact Am (n - (i + 1)) _ (by omega) ⟨i + 1, v9, m9, O ++ [ce], rfl, rfl, rfl, rfl, by omega, hO9, by rw [List.map_append, hOc, List.range_succ, List.map_append]; rfl, RdC.snoc' hOs (hce _)⟩ Qs
  ·obtain rfl : i = n := by omega
   refine Aw (Aa (Aa (Ag ?_)))
   exact Ay _ ⟨vO, mO, O, rfl, rfl, rfl, hO, hOc, hOs⟩ Qs
 ·obtain ⟨vO, mO, O, rfl, rfl, rfl, hO, hOc, hOs⟩ := hI
  refine Az (Qm rfl (An (Bz ?_)))
  refine AV (fun sl h' ms' => ∃ (vL : Value) (mL : Hp) (vO : Value) (mO : Hp) (O : List Ce), sl = [(0, .int .i64 n), (2, .pointer (some ⟨g2, 0, none⟩)), (3, .pointer (some ⟨g3, 0, none⟩)), (5, vL)] ∧ hp.le h' ∧ ms' = [mL, mO, Bf g3 29 [vO], Bf g2 29 [.slice none 0 0]] ∧ OwnL cD 2 81 mL vL (CC n n) ∧ OwnL cC 3 59 mO vO O ∧ O.map Ce.c = (List.range n).map O9 ++ (List.range n).map (Th n) ∧ ∀ a ∈ O, RdL cD 2 h' [] a.v a.c.sd) ?_ (fun s h ms hI => ?_)
  ·refine Ac (Ab (Qm rfl (An (Ah ?_))))
   refine AD (fun q sl h' ms' => ∃ (i : Nat) (vL : Value) (mL : Hp) (vO : Value) (mO : Hp) (O : List Ce), q = n - i ∧ sl = [(0, .int .i64 n), (2, .pointer (some ⟨g2, 0, none⟩)), (3, .pointer (some ⟨g3, 0, none⟩)), (5, vL), (6, .int .i64 i)] ∧ hp.le h' ∧ ms' = [mL, mO, Bf g3 29 [vO], Bf g2 29 [.slice none 0 0]] ∧ i ≤ n ∧ OwnL cD 2 81 mL vL (CC n i) ∧ OwnL cC 3 59 mO vO O ∧ O.map Ce.c = (List.range n).map O9 ++ (List.range i).map (Th n) ∧ ∀ a ∈ O, RdL cD 2 h' [] a.v a.c.sd)
    (n - 0) _ ⟨0, _, Hp.emp, vO, mO, O, rfl, rfl, Hp.le_refl _, rfl, by omega, OwnL.nil Cj, hO, by rw [hOc]; simp, hOs⟩ Qs ?_
   rintro q sl h1 ms' ⟨i, vL, mL, vO, mO, O, rfl, rfl, l1, rfl, hi, hL, hO, hOc, hOs⟩
   have ovO : vO.oneCell' = true := (hO.rd (h := hp) (ms := [mO]) (List.Mem.head _)).rd.one
   have ovL : vL.oneCell' = true := (hL.rd (h := hp) (ms := [mL]) (List.Mem.head _)).rd.one
   have hOl : O.length = n + i := by have := congrArg List.length hOc; simpa using this
   refine Ac (Az (Qm rfl (Qm rfl (Qm rfl (An ?_)))))
   refine Ax rfl (fun hin => ?_) (fun hin => ?_)
   ·have hm0 : 0 ≤ ((i : Int) + 1) % (n : Int) := Int.emod_nonneg _ (by omega)
    have hm1 : ((i : Int) + 1) % (n : Int) < (n : Int) := Int.emod_lt_of_pos _ (by omega)
    refine Ai (Ad (Ac (Ah (Az (Qm rfl (Qx (oA rfl) rfl (Qx (A6 Ou [.int .i64 0, .int .i64 0] [(0, _), (1, _)] [_, _] rfl AR rfl rfl Qt rfl) rfl (C4 [.int .i64 0, .int .i64 0] rfl AR rfl rfl (fun g7 => ?_)))))))))
    refine Sa 0 [_, _] AR rfl (by simp [Value.oneCell']) ?_
    refine An (AA fun h2 l2 hS7 => (Az (Qm rfl (Qx (oA rfl) rfl (Qm rfl (Qx (B5 rfl rfl rfl (by omega) (by omega)) rfl (Qx (oA rfl) rfl (Qx (A6 Ou [.int .i64 0, .int .i64 0] [(0, _), (1, _)] [_, _] rfl AR rfl rfl Qt rfl) rfl (C4 [.int .i64 0, .int .i64 0] rfl AR rfl rfl (fun g8 => ?_))))))))))
    refine Sa 0 [_, _] AR rfl (by simp [Value.oneCell']) ?_
    refine An (AA fun h3 l3 hS8 => ?_)
    have hS7 := hS7.le l3
    refine Az (Qf BX rfl (Ql rfl underlying27 (Cell.blk 2 rfl rfl) (Qm rfl (Qm rfl (Qx (oA rfl) rfl (Qx (oA rfl) rfl (Qx (oG rfl underlying81 AR (Seg.any hS7)) rfl (Qx (oG rfl underlying81 AR (Seg.any hS8)) rfl (AE [(0, _), (2, _)] [.int .i64 0, .int .i64 0, .int .i64 0, .int .i64 0] [_, _, _, _] rfl underlying57 AR rfl (by omega) (by kernel_rfl) Qt rfl rfl rfl rfl (fun g44 => AN fun h4 l4 k4 => ?_))))))))))
    let ce : Ce := ⟨Th n i, .slice (some ⟨g44, 0, none⟩) 2 2⟩
    have hce : RdL cD 2 h4 [] ce.v ce.c.sd := (OwnL.blk (g := g44) (el := 81) (F := cD) (l := [((i : Int) + 1, -1), (((i : Int) + 1) % (n : Int) + 1, 1)]) 2 Cj rfl (by decide)).rdh k4
    have hOs := fun a ha => (hOs a ha).up (Hp.le_trans l2 (Hp.le_trans l3 l4))
    refine Qx (A6 KE [.int .i64 0, .int .i64 0, .slice none 0 0] [(0, _), (1, _), (2, _)] [_, _, _] rfl AH rfl rfl Qt rfl) rfl ?_
    refine Ao [_, _, _] rfl underlying27 AH rfl (by rfl) rfl rfl (by omega) rfl rfl rfl (fun g46 => ?_)
    refine Bh 2 hO (RdL.one BP (x := ce) (List.Mem.head _) rfl) rfl underlying27 AH rfl (by omega) rfl rfl rfl (Db (l := [ce]) (h := h4) fun y hy => by rw [List.mem_singleton.1 hy]; exact hce) (by (try simp only [List.length_singleton]); omega) (by (try simp only [List.length_singleton]); omega) rfl rfl rfl (fun v9 m9 hO9 => ?_)
    have ov9 : v9.oneCell' = true := (hO9.rd (h := hp) (ms := [m9]) (List.Mem.head _)).rd.one
    have hLl := H9 n i
    refine Qf BX rfl ?_
    refine AK 3 _ rfl KL rfl rfl (by assumption) rfl rfl (by (simp; done)) rfl rfl ?_
    refine GZ (Qm rfl (Qm rfl (Qm rfl (Qx (oA rfl) rfl (Qx (oA rfl) rfl (Qx (A6 Ou [.int .i64 0, .int .i64 0] [(0, _), (1, _)] [_, _] rfl AR rfl rfl Qt rfl) rfl ?_))))))
    refine Ao [_, _] rfl underlying57 AR rfl (by rfl) rfl rfl (by omega) rfl rfl rfl (fun g55 => ?_)
    refine AJ 2 hL (RdL.one Cj (x := ((n : Int) + (i : Int) + 1, 1)) (List.Mem.head _) rfl) rfl underlying57 AR rfl (by omega) rfl rfl rfl Do (by (try simp only [List.length_singleton]); omega) (by (try simp only [List.length_singleton]); omega) rfl rfl rfl (fun v8 m8 hO8 => ?_)
    rw [← R8] at hO8
    have ov8 : v8.oneCell' = true := (hO8.rd (h := hp) (ms := [m8]) (List.Mem.head _)).rd.one
    refine Qm rfl (Ak (Aj (Ad (Ab (Qm rfl (Qx (oA rfl) rfl (Qm rfl (Ak (Bn 0 rfl (Bn 0 rfl ?_))))))))))
    exact Am (n - (i + 1)) _ (by omega) ⟨i + 1, v8, m8, v9, m9, O ++ [ce], rfl, rfl, Hp.le_trans l1 (Hp.le_trans l2 (Hp.le_trans l3 l4)), rfl, by omega, hO8, hO9, by rw [List.map_append, hOc, List.range_succ, List.map_append, List.append_assoc]; rfl, RdC.snoc' hOs hce⟩ Qs
   ·obtain rfl : i = n := by omega
    refine Aw (Aa (Aa (Ag ?_)))
    exact Ay _ ⟨vL, mL, vO, mO, O, rfl, l1, rfl, hL, hO, hOc, hOs⟩ Qs
  ·obtain ⟨vL, mL, vO, mO, O, rfl, l1, rfl, hL, hO, hOc, hOs⟩ := hI
   refine BA fun h2 l2 k2 => ?_
   have hRL := hL.rdh (ms := []) k2
   obtain ⟨aL, cL, rfl, _⟩ := hRL.rd.ex
   have ovL := hRL.rd.one
   have ovO : vO.oneCell' = true := (hO.rd (h := hp) (ms := [mO]) (List.Mem.head _)).rd.one
   have hOl : O.length = n + n := by have := congrArg List.length hOc; simpa using this
   have hOs := fun a ha => (hOs a ha).up l2
   let ce : Ce := ⟨⟨2 * (n : Int) + 1, 2, CC n n⟩, .slice aL (CC n n).length cL⟩
   have hLl := H9 n n
   refine Az (Qf BX rfl (Ql rfl underlying27 (Cell.blk 1 rfl rfl) (Qm rfl (Qx (oM rfl) rfl (Qx (oA rfl) rfl (Qm rfl (Qx (A6 KE [.int .i64 0, .int .i64 0, .slice none 0 0] [(0, _), (1, _), (2, _)] [_, _, _] rfl AH rfl rfl Qt rfl) rfl ?_)))))))
   refine Ao [_, _, _] rfl underlying27 AH rfl (by rfl) rfl rfl (by omega) rfl rfl rfl (fun g64 => ?_)
   refine Bh 1 hO (RdL.one BP (x := ce) (List.Mem.head _) rfl) rfl underlying27 AH rfl (by omega) rfl rfl rfl (Db (l := [ce]) (h := h2) fun y hy => by rw [List.mem_singleton.1 hy]; exact hRL) (by (try simp only [List.length_singleton]); omega) (by (try simp only [List.length_singleton]); omega) rfl rfl rfl (fun v9 m9 hO9 => ?_)
   have ov9 : v9.oneCell' = true := (hO9.rd (h := hp) (ms := [m9]) (List.Mem.head _)).rd.one
   refine Qf BX rfl ?_
   refine AK 2 _ rfl KL rfl rfl (by assumption) rfl rfl (by (simp; done)) rfl rfl ?_
   refine An (Jh ?_)
   have hOs9 := RdC.snoc' hOs (c := ce) hRL
   have hO9c : (O ++ [ce]).map Ce.c = (List.range n).map O9 ++ (List.range n).map (Th n) ++ [⟨2 * (n : Int) + 1, 2, CC n n⟩] := by rw [List.map_append, hOc]; rfl
   refine AV (fun sl h' ms' => ∃ (vO : Value) (mO : Hp) (O : List Ce), sl = [(2, .pointer (some ⟨g2, 0, none⟩)), (3, .pointer (some ⟨g3, 0, none⟩))] ∧ h2.le h' ∧ ms' = [mO, Bf g3 29 [vO], Bf g2 29 [.slice none 0 0]] ∧ OwnL cC 3 59 mO vO O ∧ O.map Ce.c = Ep n ∧ ∀ a ∈ O, RdL cD 2 h' [] a.v a.c.sd) ?_ (fun s h ms hI => ?_)
   ·refine Ac (Ab (Qm rfl (Qx (B5 rfl rfl rfl (by omega) (by omega)) rfl (Qm rfl (An ?_)))))
    refine Ax rfl (fun hev => ?_) (fun hev => ?_)
    ·have hev : n % 2 = 0 := by omega
     refine B4 (n := 13) (bs := [true, false, true, true, true, false, true, false, false, false, false, true, false]) [true, false, true, true, true, false, true, false, false, false, false, true] CN (by kernel_rfl) (by kernel_rfl) rfl rfl (QF BX rfl (Qq rfl (Qp rfl (oM rfl) (Qp rfl (oA rfl) (Qq rfl (QF BX rfl ?_))))))
     unfold GI
     simp only [List.cons_append, List.nil_append]
     refine A0 [1, 5] (by kernel_rfl) rfl ?_
     refine AB rfl ?_ ?_
     ·refine Ql rfl underlying27 (Cell.blk 1 rfl rfl) (Qw (Qo 5 rfl ?_))
      refine AE [] [] [] rfl underlying57 AR rfl (by omega) (by kernel_rfl) (by repeat (first | exact trivial | refine ⟨⟨by first | rfl | exact Rd.cells ‹_› | exact (RdL.rd ‹_›).cells, rfl, rfl⟩, ?_⟩)) rfl rfl rfl rfl (fun g75 => ?_)
      refine Qw (Qo 7 rfl ?_)
      refine AJ 0 (D0 g75 Cj) hRL.any rfl underlying57 AR rfl (by omega) rfl rfl rfl Do (by (try simp only [List.length_singleton, List.length_append, List.length_nil, List.nil_append]); omega) (by (try simp only [List.length_singleton, List.length_append, List.length_nil, List.nil_append]); omega) rfl rfl rfl (fun v6 m6 hO6 => ?_)
      rw [List.nil_append] at hO6
      refine AN fun h3 l3 k3 => ?_
      have hR6 := hO6.rdh (ms := []) k3
      obtain ⟨a6, c6, rfl, _⟩ := hR6.rd.ex
      have ov6 := hR6.rd.one
      have hOs9 := fun a ha => (hOs9 a ha).up l3
      refine Qa (F7 8 78 (by kernel_rfl) rfl (by assumption) rfl (A6 KE [.int .i64 0, .int .i64 0, .slice none 0 0] [(0, _), (1, _), (2, _)] [_, _, _] rfl AH rfl rfl Qt rfl) (Qo 9 rfl ?_))
      refine Ao [_, _, _] rfl underlying27 AH rfl (by rfl) rfl rfl (by omega) rfl rfl rfl (fun g79 => ?_)
      refine Qa (Qo 10 rfl ?_)
      refine Bh 1 hO9 (RdL.one BP (x := (⟨⟨2 * (n : Int) + 2, 2, CC n n⟩, .slice a6 (CC n n).length c6⟩ : Ce)) (List.Mem.head _) rfl) rfl underlying27 AH rfl (by omega) rfl rfl rfl (Db (l := [⟨⟨2 * (n : Int) + 2, 2, CC n n⟩, .slice a6 (CC n n).length c6⟩]) (h := h3) fun y hy => by rw [List.mem_singleton.1 hy]; exact hR6) (by (try simp only [List.length_singleton, List.length_append, List.length_nil, List.nil_append]); omega) (by (try simp only [List.length_singleton, List.length_append, List.length_nil, List.nil_append]); omega) rfl rfl rfl (fun v7 m7 hO7 => ?_)
      have ov7 : v7.oneCell' = true := (hO7.rd (h := hp) (ms := [m7]) (List.Mem.head _)).rd.one
      refine Qa (Qo 12 rfl ?_)
      refine AK 2 _ rfl KL rfl rfl (by assumption) rfl rfl (by (simp; done)) rfl rfl ?_
      refine Qa (Qe (AS ?_))
      exact Ay _ ⟨v7, m7, _, rfl, l3, rfl, hO7, by rw [List.map_append, hO9c]; unfold Ep; rw [if_pos hev]; rfl, RdC.snoc' hOs9 (c := ⟨⟨2 * (n : Int) + 2, 2, CC n n⟩, .slice a6 (CC n n).length c6⟩) hR6⟩ Qs
     refine AB rfl ?_ ?_
     ·refine AE [] [] [] rfl underlying57 AR rfl (by omega) (by kernel_rfl) (by repeat (first | exact trivial | refine ⟨⟨by first | rfl | exact Rd.cells ‹_› | exact (RdL.rd ‹_›).cells, rfl, rfl⟩, ?_⟩)) rfl rfl rfl rfl (fun g75 => ?_)
      refine Qw (A0 [1, 7] (by kernel_rfl) rfl ?_)
      refine AB rfl ?_ ?_
      ·refine Ql rfl underlying27 (Cell.blk 2 rfl rfl) (Qw (Qo 7 rfl ?_))
       refine AJ 0 (D0 g75 Cj) hRL.any rfl underlying57 AR rfl (by omega) rfl rfl rfl Do (by (try simp only [List.length_singleton, List.length_append, List.length_nil, List.nil_append]); omega) (by (try simp only [List.length_singleton, List.length_append, List.length_nil, List.nil_append]); omega) rfl rfl rfl (fun v6 m6 hO6 => ?_)
       rw [List.nil_append] at hO6
       refine AN fun h3 l3 k3 => ?_
       have hR6 := hO6.rdh (ms := []) k3
       obtain ⟨a6, c6, rfl, _⟩ := hR6.rd.ex
       have ov6 := hR6.rd.one
       have hOs9 := fun a ha => (hOs9 a ha).up l3
       refine Qa (F7 8 78 (by kernel_rfl) rfl (by assumption) rfl (A6 KE [.int .i64 0, .int .i64 0, .slice none 0 0] [(0, _), (1, _), (2, _)] [_, _, _] rfl AH rfl rfl Qt rfl) (Qo 9 rfl ?_))
       refine Ao [_, _, _] rfl underlying27 AH rfl (by rfl) rfl rfl (by omega) rfl rfl rfl (fun g79 => ?_)
       refine Qa (Qo 10 rfl ?_)
       refine Bh 1 hO9 (RdL.one BP (x := (⟨⟨2 * (n : Int) + 2, 2, CC n n⟩, .slice a6 (CC n n).length c6⟩ : Ce)) (List.Mem.head _) rfl) rfl underlying27 AH rfl (by omega) rfl rfl rfl (Db (l := [⟨⟨2 * (n : Int) + 2, 2, CC n n⟩, .slice a6 (CC n n).length c6⟩]) (h := h3) fun y hy => by rw [List.mem_singleton.1 hy]; exact hR6) (by (try simp only [List.length_singleton, List.length_append, List.length_nil, List.nil_append]); omega) (by (try simp only [List.length_singleton, List.length_append, List.length_nil, List.nil_append]); omega) rfl rfl rfl (fun v7 m7 hO7 => ?_)
       have ov7 : v7.oneCell' = true := (hO7.rd (h := hp) (ms := [m7]) (List.Mem.head _)).rd.one
       refine Qa (Qo 12 rfl ?_)
       refine AK 2 _ rfl KL rfl rfl (by assumption) rfl rfl (by (simp; done)) rfl rfl ?_
       refine Qa (Qe (AS ?_))
       exact Ay _ ⟨v7, m7, _, rfl, l3, rfl, hO7, by rw [List.map_append, hO9c]; unfold Ep; rw [if_pos hev]; rfl, RdC.snoc' hOs9 (c := ⟨⟨2 * (n : Int) + 2, 2, CC n n⟩, .slice a6 (CC n n).length c6⟩) hR6⟩ Qs
      refine AB rfl ?_ ?_
      ·refine AJ 0 (D0 g75 Cj) hRL.any rfl underlying57 AR rfl (by omega) rfl rfl rfl Do (by (try simp only [List.length_singleton, List.length_append, List.length_nil, List.nil_append]); omega) (by (try simp only [List.length_singleton, List.length_append, List.length_nil, List.nil_append]); omega) rfl rfl rfl (fun v6 m6 hO6 => ?_)
       rw [List.nil_append] at hO6
       refine AN fun h3 l3 k3 => ?_
       have hR6 := hO6.rdh (ms := []) k3
       obtain ⟨a6, c6, rfl, _⟩ := hR6.rd.ex
       have ov6 := hR6.rd.one
       have hOs9 := fun a ha => (hOs9 a ha).up l3
       refine Qa (F7 8 78 (by kernel_rfl) rfl (by assumption) rfl (A6 KE [.int .i64 0, .int .i64 0, .slice none 0 0] [(0, _), (1, _), (2, _)] [_, _, _] rfl AH rfl rfl Qt rfl) (A0 [1, 9] (by kernel_rfl) rfl ?_))
       refine AB rfl ?_ ?_
       ·refine Ql rfl underlying27 (Cell.blk 1 rfl rfl) (Qa (Qo 9 rfl ?_))
        refine Ao [_, _, _] rfl underlying27 AH rfl (by rfl) rfl rfl (by omega) rfl rfl rfl (fun g79 => ?_)
        refine Qa (Qo 10 rfl ?_)
        refine Bh 1 hO9 (RdL.one BP (x := (⟨⟨2 * (n : Int) + 2, 2, CC n n⟩, .slice a6 (CC n n).length c6⟩ : Ce)) (List.Mem.head _) rfl) rfl underlying27 AH rfl (by omega) rfl rfl rfl (Db (l := [⟨⟨2 * (n : Int) + 2, 2, CC n n⟩, .slice a6 (CC n n).length c6⟩]) (h := h3) fun y hy => by rw [List.mem_singleton.1 hy]; exact hR6) (by (try simp only [List.length_singleton, List.length_append, List.length_nil, List.nil_append]); omega) (by (try simp only [List.length_singleton, List.length_append, List.length_nil, List.nil_append]); omega) rfl rfl rfl (fun v7 m7 hO7 => ?_)
        have ov7 : v7.oneCell' = true := (hO7.rd (h := hp) (ms := [m7]) (List.Mem.head _)).rd.one
        refine Qa (Qo 12 rfl ?_)
        refine AK 2 _ rfl KL rfl rfl (by assumption) rfl rfl (by (simp; done)) rfl rfl ?_
        refine Qa (Qe (AS ?_))
        exact Ay _ ⟨v7, m7, _, rfl, l3, rfl, hO7, by rw [List.map_append, hO9c]; unfold Ep; rw [if_pos hev]; rfl, RdC.snoc' hOs9 (c := ⟨⟨2 * (n : Int) + 2, 2, CC n n⟩, .slice a6 (CC n n).length c6⟩) hR6⟩ Qs
       refine AB rfl ?_ ?_
       ·refine Ao [_, _, _] rfl underlying27 AH rfl (by rfl) rfl rfl (by omega) rfl rfl rfl (fun g79 => ?_)
        refine Qa (Qo 1 rfl (Ql rfl underlying27 (Cell.blk 2 rfl rfl) (Qa (Qo 10 rfl ?_))))
        refine Bh 1 hO9 (RdL.one BP (x := (⟨⟨2 * (n : Int) + 2, 2, CC n n⟩, .slice a6 (CC n n).length c6⟩ : Ce)) (List.Mem.head _) rfl) rfl underlying27 AH rfl (by omega) rfl rfl rfl (Db (l := [⟨⟨2 * (n : Int) + 2, 2, CC n n⟩, .slice a6 (CC n n).length c6⟩]) (h := h3) fun y hy => by rw [List.mem_singleton.1 hy]; exact hR6) (by (try simp only [List.length_singleton, List.length_append, List.length_nil, List.nil_append]); omega) (by (try simp only [List.length_singleton, List.length_append, List.length_nil, List.nil_append]); omega) rfl rfl rfl (fun v7 m7 hO7 => ?_)
        have ov7 : v7.oneCell' = true := (hO7.rd (h := hp) (ms := [m7]) (List.Mem.head _)).rd.one
        refine Qa (Qo 12 rfl ?_)
        refine AK 2 _ rfl KL rfl rfl (by assumption) rfl rfl (by (simp; done)) rfl rfl ?_
        refine Qa (Qe (AS ?_))
        exact Ay _ ⟨v7, m7, _, rfl, l3, rfl, hO7, by rw [List.map_append, hO9c]; unfold Ep; rw [if_pos hev]; rfl, RdC.snoc' hOs9 (c := ⟨⟨2 * (n : Int) + 2, 2, CC n n⟩, .slice a6 (CC n n).length c6⟩) hR6⟩ Qs
       exact A3
      exact A3
     exact A3
    ·refine Ai ?_
     exact Ay _ ⟨v9, m9, _, rfl, Hp.le_refl _, rfl, hO9, by rw [hO9c]; unfold Ep; rw [if_neg (by omega), List.append_nil], hOs9⟩ Qs
   ·obtain ⟨vO, mO, O, rfl, l3, rfl, hO, hOc, hOs⟩ := hI
    refine BA fun h4 l4 k4 => (AA fun h5 l5 hS3 => ?_)
    have hR : RdC h5 vO O := ⟨hO.rdh (Hp.le_trans k4 l5), fun a ha => (hOs a ha).up (Hp.le_trans l4 l5)⟩
    have ovO := hR.q.rd.one
    have hOl : O.length ≤ 1000 := by have := congrArg List.length hOc; rw [List.length_map] at this; rw [this]; unfold Ep; simp; split <;> simp <;> omega
    have hK : CsOk O := ⟨by omega, fun a ha => by
     have : a.c ∈ Ep n := by rw [← hOc]; exact List.mem_map.2 ⟨a, ha, rfl⟩
     have := Ti n a.c this; omega⟩
    refine Az (Qx (oG rfl underlying29 Bi (Seg.any hS3)) rfl (Qc call45 rfl (Ki O vO h5 hK hR) (fun rC h10 ms10 l10 hF => ?_)))
    obtain ⟨l10', mC, C, vC, rfl, rfl, hOC, hC, hsC⟩ := hF
    have ovC : vC.oneCell' = true := (hOC.rd (h := h10) (ms := [mC]) (List.Mem.head _)).rd.one
    refine Sa 1 [_] Bi rfl (by simp [ovO, ovC]) ?_
    refine An (Aq ?_)
    exact C7 (vs := [_]) 1 rfl rfl underlying29 rfl Bi rfl rfl (⟨Hp.le_trans l1 (Hp.le_trans l2 (Hp.le_trans l3 (Hp.le_trans l4 (Hp.le_trans l5 l10)))), mC, C, _, rfl, rfl, hOC, by rw [hC, hOc], hsC⟩)
theorem IT : ∀ (ll acc all : List (List Int)), acc.length ≤ 4000 → Ct acc ll = some all → all.length ≤ 4000
 | [], acc, all, h, e => by
  have : acc = all := Option.some.inj e
  rw [← this]; exact h
 | l :: ll, acc, all, h, e => by
  rw [Ei] at e
  split at e
  ·cases e
  ·exact IT ll _ all (by omega) e
theorem Ka (ll : List (List Int)) : (Dw ll).length ≤ 4000 ∧ ∀ c ∈ Dw ll, (-1 ≤ c.dim ∧ c.dim ≤ 8) ∧ c.sd.length ≤ 9 := by
 unfold Dw
 cases h : Ct [] ll with
 | none => exact ⟨by simp, fun c hc => nomatch hc⟩
 | some all =>
  have h9 := Ef ll [] all List.Pairwise.nil (fun t ht => nomatch ht) h
  refine ⟨by simpa using IT ll [] all (by simp) h, fun c hc => ?_⟩
  obtain ⟨i, hi, rfl⟩ := List.mem_map.1 hc
  have hil := List.mem_range.1 hi
  have hl : (all.getD i []).length ≤ 9 := by
   have : all.getD i [] = all[i] := by simp [List.getD, hil]
   rw [this]; exact h9 _ (List.getElem_mem hil)
  refine ⟨?_, ?_⟩
  ·show -1 ≤ ((all.getD i []).length : Int) - 1 ∧ ((all.getD i []).length : Int) - 1 ≤ 8
   omega
  ·show (if (all.getD i []).length ≤ 1 then [] else Cp _).length ≤ 9
   split
   ·simp
   ·rw [FE, List.length_map, List.length_range]; exact hl
theorem VW {A : List Ce} {l : List Cl} (e : A.map Ce.c = l) (hn : l.length ≤ 100000) (hl : ∀ c ∈ l, (-9223372036854775807 ≤ c.dim ∧ c.dim ≤ 9223372036854775807) ∧ c.sd.length ≤ 100000) : MP A := by
 subst e
 exact ⟨⟨by simpa using hn, fun a ha => (hl _ (List.mem_map.2 ⟨a, ha, rfl⟩)).2⟩, fun a ha => (hl _ (List.mem_map.2 ⟨a, ha, rfl⟩)).1⟩
theorem Ee {A : List Ce} {ll : List (List Int)} (e : A.map Ce.c = Dw ll) : MP A :=
 VW e (by have := (Ka ll).1; omega) fun c hc => by have := (Ka ll).2 c hc; omega
def Wk (h : Hp) (r : Value) (ms : List Hp) (Q : List Cl → Prop) : Prop := ∃ m A v', ms = [m] ∧ r = .agg #[v'] ∧ OwnL cC 3 59 m v' A ∧ Q (A.map Ce.c) ∧ ∀ a ∈ A, RdL cD 2 h [] a.v a.c.sd
theorem RdEs.one2 {h : Hp} {el : TypeId} {g : Nat} {a b : Int} (k : (Bf g el [.int .i64 a, .int .i64 b]).le h) : RdL cI 1 h [] (.slice (some ⟨g, 0, none⟩) 2 2) [a, b] := (OwnL.blk (g := g) (el := el) (F := cI) (l := [a, b]) 2 AT rfl (by decide)).rdh k
def PD : List (List Int) := [[0, 1], [1, 2], [0, 2]]
def PT (n : Nat) (l : List Cl) : Prop := l = [] ∨ ∃ out, l = ordF out ∧ (CW out).2 = 0 ∧ out.length = n ∧ ∀ c ∈ out, c.id ≤ (n : Int)
theorem IA {P : List Ce} {m n : Nat} (H : P = [] ∨ ∃ out, P.map Ce.c = ordF out ∧ (CW out).2 = 0 ∧ out.length = m ∧ ∀ c ∈ out, c.id ≤ (m : Int)) (e : m = n) : PT n (P.map Ce.c) := by
 subst e
 rcases H with rfl | H
 ·exact .inl rfl
 ·exact .inr H
theorem S5 (hp : Hp) : FnT Tryz.prog 20 #[] hp [] (fun r h' ms' => hp.le h' ∧ Wk h' r ms' (PT ((Dw PD).length * (Dw PD).length))) := by
 refine Av func20 ntmps20 rfl rfl (fun w0 hw0 => ?_)
 simp only [A5]
 have hE := RdEs.nil hp
 refine Az (C4 [.slice none 0 0] rfl Bi rfl rfl (fun g0 => BG (AE [(0, _), (1, _)] [.int .i64 0, .int .i64 0] [_, _] rfl underlying25 Bm rfl (by omega) (by kernel_rfl) Qt rfl rfl rfl rfl (fun g2 => AN fun h1 l1 k1 => ?_))))
 have hE := (hE.up l1).snoc (RdEs.one2 k1)
 refine AE [(0, _), (1, _)] [.int .i64 0, .int .i64 0] [_, _] rfl underlying25 Bm rfl (by omega) (by kernel_rfl) Qt rfl rfl rfl rfl (fun g3 => AN fun h2 l2 k2 => ?_)
 have hE := (hE.up l2).snoc (RdEs.one2 k2)
 refine AE [(0, _), (1, _)] [.int .i64 0, .int .i64 0] [_, _] rfl underlying25 Bm rfl (by omega) (by kernel_rfl) Qt rfl rfl rfl rfl (fun g4 => AN fun h3 l3 k3 => ?_)
 have hE := (hE.up l3).snoc (RdEs.one2 k3)
 refine AE [(0, _), (1, _), (2, _)] [.slice none 0 0, .slice none 0 0, .slice none 0 0] [_, _, _] rfl underlying22 Cn rfl (by omega) (by kernel_rfl) Qt rfl rfl rfl rfl (fun g5 => AN fun h4 l4 k4 => ?_)
 have hE := hE.up l4
 have hV := (OwnL.blk (g := g5) (el := 25) (F := cW) (l := [_, _, _]) 3 Dn rfl (by decide)).rdh (ms := []) k4
 refine Qc call15 rfl (BU PD _ _ h4 (by decide) (by decide) hV hE) (fun rC h5 ms5 l5 hF => ?_)
 obtain ⟨l5', m, A, vA, rfl, rfl, hO, hA, hs⟩ := hF
 refine A7 hO fun h6 l6 hR => ?_
 have hRd : RdC h6 vA A := ⟨hR, fun a ha => (hs a ha).up l6⟩
 have ovA := hR.rd.one
 refine C4 [.slice none 0 0] rfl Bi rfl rfl (fun g1 => ?_)
 refine Sa 0 [_] Bi rfl (by simp [ovA]) ?_
 refine An (AA fun h7 l7 hS1 => ?_)
 have hRd := hRd.up l7
 refine Az (Qx (oG rfl underlying29 Bi (Seg.any hS1)) rfl (Qx (oG rfl underlying29 Bi (Seg.any hS1)) rfl (Qc call18 rfl (EL A A vA vA h7 (Ee hA) (Ee hA) hRd hRd) (fun rP h8 ms8 l8 hF => ?_))))
 obtain ⟨l8', mP, P, vP, rfl, rfl, hOP, hsP, hP⟩ := hF
 have ovP : vP.oneCell' = true := (hOP.rd (h := h8) (ms := [mP]) (List.Mem.head _)).rd.one
 refine Sa 1 [_] Bi rfl (by simp [ovP]) ?_
 refine An (Aq ?_)
 have hAl : A.length = (Dw PD).length := by rw [← hA, List.length_map]
 exact C7 (vs := [_]) 1 rfl rfl underlying29 rfl Bi rfl rfl (⟨Hp.le_trans l1 (Hp.le_trans l2 (Hp.le_trans l3 (Hp.le_trans l4 (Hp.le_trans l5 (Hp.le_trans l6 (Hp.le_trans l7 l8)))))), mP, P, _, rfl, rfl, hOP, IA hP (by rw [hAl]), hsP⟩)
end Go.Proofs.YtodheebhahdepaaGreat
namespace Go.Proofs.YtodheebhahdepaaGreat
open Go.Eng Go.RowKit
variable {o l : List Cl} {x y : Cl} {α β : Type}
def Jg (l : List Cl) (c : Int) : Option Cl := l.find? fun y => decide (y.id = c)
def Gu (l : List Cl) (c : Int) : Cl := (Jg l c).getD default
theorem GB (hn : (l.map Cl.id).Nodup) (hy : y ∈ l) : Jg l y.id = some y := by
 unfold Jg
 induction l with
 | nil => cases hy
 | cons a l ih =>
  rw [List.map_cons, List.nodup_cons] at hn
  rw [List.find?_cons]
  rcases List.mem_cons.1 hy with rfl | h
  ·simp
  ·have : ¬ a.id = y.id := fun e => hn.1 (List.mem_map.2 ⟨y, h, e.symm⟩)
   simp only [this, decide_false]
   exact ih hn.2 h
theorem CM (hn : (l.map Cl.id).Nodup) (hy : y ∈ l) : Gu l y.id = y := by unfold Gu; rw [GB hn hy]; rfl
def KF (L : Int → List (Int × Int)) (s : List (Int × Int)) : Fo := s.flatMap fun a => (L a.1).map fun r => (a.1, r.1, a.2 * r.2)
def FV (l : List Cl) (x : Cl) : Fo := KF (fun c => (Gu l c).sd) x.sd
structure Rgt (l : List Cl) : Prop where
 n : l.length ≤ 4000
 nd : (l.map Cl.id).Nodup
 pos : ∀ x ∈ l, 1 ≤ x.id
 dim : ∀ x ∈ l, 0 ≤ x.dim ∧ x.dim ≤ 8
 num : ∀ x ∈ l, ¬ BD x
 sds : ∀ x ∈ l, (x.sd.map Prod.fst).Nodup
 sid : ∀ x ∈ l, ∀ s ∈ x.sd, ∃ y ∈ l, y.id = s.1 ∧ y.dim = x.dim - 1
 sgn : ∀ x ∈ l, ∀ s ∈ x.sd, s.2 = 1 ∨ s.2 = -1
 one : ∀ x ∈ l, x.dim = 1 → (x.sd.map Prod.snd).sum = 0
 tab : ∀ x ∈ l, 2 ≤ x.dim → GoodT (FV l x) x.sd
theorem Rgt.nil : Rgt [] := ⟨by simp, by simp, nofun, nofun, nofun, nofun, nofun, nofun, nofun, nofun⟩
theorem H7 {l l' : List Int} (h : l.Perm l') : l.sum = l'.sum := by
 induction h with
 | nil => rfl
 | cons x _ ih => simp only [List.sum_cons, ih]
 | swap x y l => simp only [List.sum_cons]; omega
 | trans _ _ h1 h2 => exact h1.trans h2
theorem GoodT.perm {T T' : Fo} {s s' : List (Int × Int)} (h : T.Perm T') (hs : s.Perm s') (G : GoodT T s) : GoodT T' s' where
 sum := fun e he => by
  exact (H7 (h.map _).symm).trans (G.sum e (h.mem_iff.2 he))
 two := fun e he => by
  exact (H7 (h.map _).symm).trans (G.two e (h.mem_iff.2 he))
 con := fun a ha b hb => (G.con a (hs.mem_iff.2 ha) b (hs.mem_iff.2 hb)).mono fun e he => h.mem_iff.1 he
theorem GR {f g : α → List β} : ∀ {l : List α}, (∀ a ∈ l, (f a).Perm (g a)) → (l.flatMap f).Perm (l.flatMap g)
 | [], _ => List.Perm.refl _
 | a :: l, h => by
  rw [List.flatMap_cons, List.flatMap_cons]
  exact (h a (List.Mem.head _)).append (GR fun b hb => h b (List.mem_cons_of_mem _ hb))
theorem Et {f g : α → List β} : ∀ {l : List α}, (∀ a ∈ l, f a = g a) → l.flatMap f = l.flatMap g
 | [], _ => rfl
 | a :: l, h => by
  rw [List.flatMap_cons, List.flatMap_cons, h a (List.Mem.head _), Et fun b hb => h b (List.mem_cons_of_mem _ hb)]
theorem HU {f g : α → List β} {l l' : List α} (h : l.Perm l') (hf : ∀ a ∈ l, (f a).Perm (g a)) : (l.flatMap f).Perm (l'.flatMap g) := (GR hf).trans (h.flatMap_right g)
theorem Q6 (x : Int × Int) (l : List (Int × Int)) : (G2 x l).Perm (x :: l) := by
 unfold G2
 refine List.perm_middle.trans ?_
 rw [List.takeWhile_append_dropWhile]
theorem CB (l : List (Int × Int)) : (Cp l).Perm l := by
 have go : ∀ (l acc : List (Int × Int)), (l.foldl (fun acc x => G2 x acc) acc).Perm (acc ++ l) := fun l => by
  induction l with
  | nil => intro acc; rw [List.append_nil]; exact List.Perm.refl _
  | cons x l ih =>
   intro acc
   rw [List.foldl_cons]
   refine (ih _).trans (((Q6 x acc).append_right l).trans ?_)
   exact List.perm_middle.symm
 exact go l []
structure SimC (l l' : List Cl) : Prop where
 len : l'.length = l.length
 ids : (l'.map Cl.id).Perm (l.map Cl.id)
 mem : ∀ x' ∈ l', ∃ x ∈ l, x'.id = x.id ∧ x'.dim = x.dim ∧ x'.sd.Perm x.sd
theorem SimC.to {l' : List Cl} (S : SimC l l') (hn : (l.map Cl.id).Nodup) (hx : x ∈ l) : ∃ x' ∈ l', x'.id = x.id ∧ x'.dim = x.dim ∧ x'.sd.Perm x.sd := by
 obtain ⟨x', h1, h2⟩ := List.mem_map.1 (S.ids.mem_iff.2 (List.mem_map.2 ⟨x, hx, rfl⟩))
 obtain ⟨y, h3, h4, h5, h6⟩ := S.mem x' h1
 have : y = x := by
  have a := GB hn h3
  have b := GB hn hx
  rw [← h4, h2, b] at a
  exact (Option.some.inj a).symm
 subst this
 exact ⟨x', h1, h4, h5, h6⟩
theorem Rgt.sim {l' : List Cl} (R : Rgt l) (S : SimC l l') : Rgt l' := by
 have hn' : (l'.map Cl.id).Nodup := S.ids.nodup_iff.2 R.nd
 have hnum : ∀ {x x' : Cl}, x'.dim = x.dim → x'.sd.Perm x.sd → ¬ BD x → ¬ BD x' := fun {x x'} h1 h2 h h3 => by
  unfold BD at *
  rw [h1, h2.length_eq] at h3
  exact h h3
 refine ⟨by rw [S.len]; exact R.n, hn', fun x' hx' => ?_, fun x' hx' => ?_, fun x' hx' => ?_, fun x' hx' => ?_, fun x' hx' s hs => ?_, fun x' hx' s hs => ?_, fun x' hx' hd => ?_, fun x' hx' hd => ?_⟩ <;> obtain ⟨x, hx, e1, e2, e3⟩ := S.mem x' hx'
 ·rw [e1]; exact R.pos x hx
 ·rw [e2]; exact R.dim x hx
 ·exact hnum e2 e3 (R.num x hx)
 ·exact (e3.map _).nodup_iff.2 (R.sds x hx)
 ·obtain ⟨y, hy, h1, h2⟩ := R.sid x hx s (e3.mem_iff.1 hs)
  obtain ⟨y', hy', h3, h4, _⟩ := S.to R.nd hy
  exact ⟨y', hy', by rw [h3, h1], by rw [h4, h2, e2]⟩
 ·exact R.sgn x hx s (e3.mem_iff.1 hs)
 ·rw [H7 (e3.map _)]; exact R.one x hx (by rw [← e2]; exact hd)
 ·refine (R.tab x hx (by rw [← e2]; exact hd)).perm ?_ e3.symm
  unfold FV KF
  refine HU e3.symm fun s hs => List.Perm.map _ ?_
  obtain ⟨y, hy, h1, h2⟩ := R.sid x hx s hs
  obtain ⟨y', hy', h3, h4, h5⟩ := S.to R.nd hy
  show (Gu l s.1).sd.Perm (Gu l' s.1).sd
  rw [← h1, CM R.nd hy, ← h3, CM hn' hy']
  exact h5.symm
theorem Lk (l : List Cl) : SimC l (ordF l) := by
 have hp := Eo l.length l (Nat.le_refl _)
 refine ⟨by rw [hp.length_eq, List.length_map], (hp.map Cl.id).trans (by rw [List.map_map]; exact List.Perm.refl _), fun x' hx' => ?_⟩
 obtain ⟨x, hx, rfl⟩ := EN hx'
 exact ⟨x, hx, rfl, rfl, CB _⟩
theorem Pi (h : o.Pairwise fun a b => a.id < b.id) : (o.map Cl.id).Nodup := List.pairwise_map.2 (h.imp fun h e => by omega)
theorem PU (hi : o.Pairwise fun a b => a.id < b.id) (hy : y ∈ o) : 0 ≤ Im o y.id ∧ o.getD (Im o y.id).toNat default = y := by
 obtain ⟨k, hk, rfl⟩ := List.getElem_of_mem hy
 have hc : JX o o[k].id = k := M1 (by omega) (fun j hj hjk => List.pairwise_iff_getElem.1 hi j k hj hk hjk) (fun _ => by omega)
 have e : Im o o[k].id = (k : Int) := by
  unfold Im
  rw [dif_pos (by rw [hc]; exact hk)]
  simp only [hc, if_pos]
 rw [e]
 refine ⟨by omega, ?_⟩
 rw [Int.toNat_natCast]
 simp [List.getD, hk]
theorem Vo {c : Int} (h : 0 ≤ Im o c) : ∃ y ∈ o, y.id = c ∧ o.getD (Im o c).toNat default = y := by
 unfold Im at *
 split at h
 ·rename_i h1
  rw [dif_pos h1]
  split at h
  ·rename_i h2
   rw [if_pos h2, Int.toNat_natCast]
   exact ⟨_, List.getElem_mem h1, h2, by simp [List.getD, h1]⟩
  ·exact absurd h (by decide)
 ·exact absurd h (by decide)
theorem Qh {l : List (Int × Int)} (h : l.length = 2) : (l.map Prod.snd).sum = (l.getD 0 (0, 0)).2 + (l.getD 1 (0, 0)).2 := by
 match l, h with
 | [a, b], _ => simp
theorem HD {x : Int × Int} : ∀ {l : List (Int × Int)}, (l.Pairwise fun a b => a.1 ≤ b.1) → ∀ y ∈ l.dropWhile (fun y => decide (y.1 ≤ x.1)), x.1 < y.1
 | [], _, y, hy => by cases hy
 | a :: l, h, y, hy => by
  rw [List.dropWhile_cons] at hy
  split at hy
  ·exact HD (List.pairwise_cons.1 h).2 y hy
  ·rename_i h1
   have h1 : ¬ a.1 ≤ x.1 := by simpa using h1
   rcases List.mem_cons.1 hy with rfl | h2
   ·omega
   ·have := (List.pairwise_cons.1 h).1 y h2; omega
theorem Ud {x : Int × Int} {l : List (Int × Int)} (h : l.Pairwise fun a b => a.1 ≤ b.1) : (G2 x l).Pairwise fun a b => a.1 ≤ b.1 := by
 unfold G2
 have h1 : ∀ y ∈ l.takeWhile (fun y => decide (y.1 ≤ x.1)), y.1 ≤ x.1 := fun y hy => by
  have := List.all_takeWhile (p := fun y : Int × Int => decide (y.1 ≤ x.1)) (l := l)
  have := List.all_eq_true.1 this y hy
  simpa using this
 have h2 := HD (x := x) h
 refine List.pairwise_append.2 ⟨h.sublist (List.takeWhile_sublist _), List.pairwise_cons.2 ⟨fun y hy => by have := h2 y hy; omega, h.sublist (List.dropWhile_sublist _)⟩, fun a ha b hb => ?_⟩
 have h3 := h1 a ha
 rcases List.mem_cons.1 hb with rfl | hb
 ·exact h3
 ·have := h2 b hb; omega
theorem Km (l : List (Int × Int)) : (Cp l).Pairwise fun a b => a.1 ≤ b.1 := by
 have go : ∀ (l acc : List (Int × Int)), (acc.Pairwise fun a b => a.1 ≤ b.1) → (l.foldl (fun acc x => G2 x acc) acc).Pairwise fun a b => a.1 ≤ b.1 := fun l => by
  induction l with
  | nil => intro acc h; exact h
  | cons x l ih => intro acc h; rw [List.foldl_cons]; exact ih _ (Ud h)
 exact go l [] List.Pairwise.nil
theorem Qu (hi : o.Pairwise fun a b => a.id < b.id) (hs : ∀ s ∈ x.sd, ∃ y ∈ o, y.id = s.1) : KB o x x.sd.length = FV o x := by
 have hx : x.sd = (List.range x.sd.length).map (Bc x) := List.ext_getElem (by simp) fun j h1 h2 => by simp [A4 h1]
 unfold FV KF
 conv => rhs; rw [hx]
 unfold KB
 rw [List.flatMap_map]
 refine Et fun j hj => ?_
 have hj := List.mem_range.1 hj
 obtain ⟨y, hy, e⟩ := hs (Bc x j) (by rw [A4 hj]; exact List.getElem_mem hj)
 have h1 : Ez o x j = y := by unfold Ez; rw [← e]; exact (PU hi hy).2
 have h2 : Gu o (Bc x j).1 = y := by rw [← e]; exact CM (Pi hi) hy
 show _ = List.map (fun r => ((Bc x j).1, r.1, (Bc x j).2 * r.2)) (Gu o (Bc x j).1).sd
 rw [h1, h2]
theorem QC (hi : o.Pairwise fun a b => a.id < b.id) (hc : ∃ y : Cl, x = y.can) : (∀ i, i < x.sd.length → ¬ B6 o x i) ↔ (∀ s ∈ x.sd, ∃ y ∈ o, y.id = s.1 ∧ y.dim = x.dim - 1) ∧ (x.sd.map Prod.fst).Nodup := by
 have hs : x.sd.Pairwise fun a b => a.1 ≤ b.1 := by obtain ⟨y, rfl⟩ := hc; exact Km _
 constructor
 ·intro h
  refine ⟨fun s hs => ?_, ?_⟩
  ·obtain ⟨i, hi', rfl⟩ := List.getElem_of_mem hs
   have h1 := h i hi'
   unfold B6 at h1
   rw [A4 hi'] at h1
   have h2 : 0 ≤ Im o x.sd[i].1 := Int.not_lt.1 fun q => h1 (.inl q)
   obtain ⟨y, hy, e1, e2⟩ := Vo h2
   rw [e2] at h1
   exact ⟨y, hy, e1, Classical.byContradiction fun q => h1 (.inr (.inl q))⟩
  ·refine List.pairwise_map.2 (List.pairwise_iff_getElem.2 fun i j hi' hj hij e => ?_)
   have h1 := h (i + 1) (by omega)
   unfold B6 at h1
   rw [A4 (by omega), Nat.add_sub_cancel, A4 hi'] at h1
   refine h1 (.inr (.inr ⟨by omega, ?_⟩))
   have a1 := List.pairwise_iff_getElem.1 hs i (i + 1) hi' (by omega) (by omega)
   rcases (by omega : i + 1 = j ∨ i + 1 < j) with rfl | q
   ·omega
   ·have a2 := List.pairwise_iff_getElem.1 hs (i + 1) j (by omega) hj q
    omega
 ·rintro ⟨h1, h2⟩ i hi' h3
  unfold B6 at h3
  rw [A4 hi'] at h3
  obtain ⟨y, hy, e1, e2⟩ := h1 _ (List.getElem_mem hi')
  obtain ⟨a1, a2⟩ := PU hi hy
  rw [e1] at a1 a2
  rcases h3 with h3 | h3 | ⟨h3, h4⟩
  ·omega
  ·rw [a2] at h3; exact h3 e2
  ·rw [A4 (show i - 1 < x.sd.length by omega)] at h4
   have := List.pairwise_iff_getElem.1 (List.pairwise_map.1 h2) (i - 1) i (by omega) hi' (by omega)
   exact this h4.symm
theorem Ic (h : (x.sd.map Prod.fst).Nodup) : ∀ j m, j < m → m < x.sd.length → (Bc x j).1 ≠ (Bc x m).1 := fun j m hjm hm => by
 rw [A4 (by omega), A4 hm]
 exact List.pairwise_iff_getElem.1 (List.pairwise_map.1 h) j m (by omega) hm hjm
theorem RgtF.rgt (R : RgtF o) : Rgt o := by
 have hf := fun x hx => D3 (R.fst x hx)
 have hnum : ∀ x ∈ o, ¬ BD x := fun x hx q => by
  have := R.fst x hx
  unfold BR at this
  rw [if_neg (by have := (hf x hx).1; omega), if_pos q] at this
  exact absurd this (by decide)
 have hb := fun x hx => (QC R.inc (R.can x hx)).1 (hf x hx).2.2.1
 have hsg : ∀ x ∈ o, ∀ s ∈ x.sd, s.2 = 1 ∨ s.2 = -1 := fun x hx => (R.bds hx).2.2
 refine ⟨R.n, Pi R.inc, R.pos, fun x hx => (hf x hx).1, hnum, fun x hx => (hb x hx).2, fun x hx => (hb x hx).1, hsg, fun x hx hd => ?_, fun x hx hd => ?_⟩
 ·have hl : x.sd.length = 2 := Classical.byContradiction fun q => hnum x hx (.inr (.inl ⟨hd, q⟩))
  rw [Qh hl]
  have h1 := hsg x hx _ (List.getElem_mem (show 0 < x.sd.length by omega))
  have h2 := hsg x hx _ (List.getElem_mem (show 1 < x.sd.length by omega))
  have h3 := R.fst x hx
  unfold BR at h3
  rw [if_neg (by have := (hf x hx).1; omega), if_neg (hnum x hx), if_neg (fun q => q (hf x hx).2.2.1), if_neg (fun q => q (hf x hx).2.2.2)] at h3
  rw [← A4] at h1 h2
  have h4 : ¬ (Bc x 0).2 = (Bc x 1).2 := fun q => by rw [if_pos ⟨hd, q⟩] at h3; exact absurd h3 (by decide)
  show (Bc x 0).2 + (Bc x 1).2 = 0
  omega
 ·have h1 := (H6 (Ic (hb x hx).2)).1 (R.snd x hx hd)
  rwa [Qu R.inc fun s hs => by obtain ⟨y, hy, e, _⟩ := (hb x hx).1 s hs; exact ⟨y, hy, e⟩] at h1
theorem Rgt.ordF (R : Rgt l) : RgtF (ordF l) := by
 have R' := R.sim (Lk l)
 have hle := Dv l.length l (Nat.le_refl _)
 have hinc : (Go.Proofs.YtodheebhahdepaaGreat.ordF l).Pairwise fun a b => a.id < b.id := (hle.and (List.pairwise_map.1 R'.nd)).imp fun h => by omega
 have hcan : ∀ x ∈ Go.Proofs.YtodheebhahdepaaGreat.ordF l, ∃ y : Cl, x = y.can := fun x hx => by obtain ⟨a, _, e⟩ := EN hx; exact ⟨a, e⟩
 refine ⟨R'.n, hinc, R'.pos, hcan, fun x hx => ?_, fun x hx hd => ?_⟩
 ·have hb := (QC hinc (hcan x hx)).2 ⟨R'.sid x hx, R'.sds x hx⟩
  have hsg : ∀ i, i < x.sd.length → ¬ Bw x i := fun i hi q => by
   unfold Bw at q
   rw [A4 hi] at q
   have := R'.sgn x hx _ (List.getElem_mem hi)
   omega
  unfold BR
  rw [if_neg (by have := R'.dim x hx; omega), if_neg (R'.num x hx), if_neg (fun q => q hb), if_neg (fun q => q hsg)]
  by_cases hd : x.dim = 1
  ·have hl : x.sd.length = 2 := Classical.byContradiction fun q => R'.num x hx (.inr (.inl ⟨hd, q⟩))
   have h1 := R'.one x hx hd
   rw [Qh hl] at h1
   have h2 := R'.sgn x hx _ (List.getElem_mem (show 0 < x.sd.length by omega))
   rw [← A4] at h2
   have h3 : (Bc x 0).2 + (Bc x 1).2 = 0 := h1
   rw [if_neg (fun q => by have := q.2; omega)]
  ·rw [if_neg (fun q => hd q.1)]
 ·refine (H6 (Ic (R'.sds x hx))).2 ?_
  rw [Qu hinc fun s hs => by obtain ⟨y, hy, e, _⟩ := R'.sid x hx s hs; exact ⟨y, hy, e⟩]
  exact R'.tab x hx hd
end Go.Proofs.YtodheebhahdepaaGreat
namespace Go.Proofs.YtodheebhahdepaaGreat
open Go.Proofs.Tryz
open Go.Eng Go.RowKit
variable {l o : List Cl} {v : Value} {oi : List CeO}
structure CanO (l o : List Cl) : Prop where
 ids : (o.map Cl.id).Perm (l.map Cl.id)
 inc : o.Pairwise fun a b => a.id ≤ b.id
 mem : ∃ l' : List Cl, l'.Perm l ∧ o.length = l'.length ∧ ∀ i (h : i < o.length) (h' : i < l'.length), o[i].id = l'[i].id ∧ o[i].dim = l'[i].dim ∧ o[i].sd.Perm l'[i].sd ∧ o[i].sd.Pairwise fun a b => a.1 ≤ b.1
theorem CanO.len (C : CanO l o) : o.length = l.length := by
 obtain ⟨l', h1, h2, _⟩ := C.mem
 rw [h2, h1.length_eq]
theorem CanO.sim (C : CanO l o) : SimC l o := by
 obtain ⟨l', h1, h2, h3⟩ := C.mem
 refine ⟨C.len, C.ids, fun x' hx' => ?_⟩
 obtain ⟨i, hi, rfl⟩ := List.getElem_of_mem hx'
 obtain ⟨a, b, c, _⟩ := h3 i hi (by omega)
 exact ⟨_, h1.mem_iff.1 (List.getElem_mem (by omega)), a, b, c⟩
theorem Ga {α : Type} (k : α → Int) : ∀ {l l' : List α}, l.Perm l' → (l.Pairwise fun a b => k a ≤ k b) → (l'.Pairwise fun a b => k a < k b) → l = l'
 | [], l', h, _, _ => (List.nil_perm.1 h).symm
 | a :: l, [], h, _, _ => absurd h.length_eq (by simp)
 | a :: l, b :: l', h, h1, h2 => by
  obtain ⟨h3, h4⟩ := List.pairwise_cons.1 h1
  obtain ⟨h5, h6⟩ := List.pairwise_cons.1 h2
  have hb : b ∈ a :: l := h.mem_iff.2 (List.Mem.head _)
  have ha : a ∈ b :: l' := h.mem_iff.1 (List.Mem.head _)
  have e : a = b := by
   rcases List.mem_cons.1 ha with e | ha
   ·exact e
   ·have g1 := h5 a ha
    rcases List.mem_cons.1 hb with e | hb
    ·exact e.symm
    ·have g2 := h3 b hb; omega
  subst e
  rw [Ga k ((List.perm_cons a).1 h) h4 h6]
theorem CanO.eq (C : CanO l o) (hi : l.Pairwise fun a b => a.id < b.id) (hs : ∀ x ∈ l, x.sd.Pairwise fun a b => a.1 < b.1) : o = l := by
 obtain ⟨l', h1, h2, h3⟩ := C.mem
 have hl' : l' = l := by
  refine Ga Cl.id h1 ?_ hi
  rw [List.pairwise_iff_getElem]
  intro i j hi' hj' hij
  have a1 := (h3 i (by omega) hi').1
  have a2 := (h3 j (by omega) hj').1
  have := List.pairwise_iff_getElem.1 C.inc i j (by omega) (by omega) hij
  omega
 subst hl'
 refine List.ext_getElem h2 fun i h4 h5 => ?_
 obtain ⟨a, b, c, d⟩ := h3 i h4 h5
 have e := Ga Prod.fst c d (hs _ (List.getElem_mem h5))
 have eta : ∀ c : Cl, c = ⟨c.id, c.dim, c.sd⟩ := fun c => rfl
 rw [eta o[i], eta l'[i], a, b, e]
theorem RgtF.sinc (R : RgtF o) : ∀ x ∈ o, x.sd.Pairwise fun a b => a.1 < b.1 := fun x hx => by
 obtain ⟨y, e⟩ := R.can x hx
 have h1 : x.sd.Pairwise fun a b => a.1 ≤ b.1 := by rw [e]; exact Km _
 have h2 := List.pairwise_map.1 (R.rgt.sds x hx)
 exact (h1.and h2).imp fun h => by omega
theorem CanO.rgt (C : CanO l o) (R : RgtF l) : o = l := C.eq R.inc R.sinc
theorem YE : ∀ {l : List Ce}, (∀ a ∈ l, a.v.oneCell' = true) → ∃ lo : List CeO, lo.map (fun e => (⟨e.c, e.v⟩ : Ce)) = l
 | [], _ => ⟨[], rfl⟩
 | a :: l, h => by
  obtain ⟨lo, e⟩ := YE fun b hb => h b (List.mem_cons_of_mem _ hb)
  exact ⟨⟨a.c, a.v, h a (List.Mem.head _)⟩ :: lo, by rw [List.map_cons, e]⟩
def ML (e : CeO) : Ce := ⟨e.c, e.v⟩
theorem Lc (lo : List CeO) : (lo.map ML).flatMap cC = lo.flatMap KM := by rw [List.flatMap_map]; rfl
theorem WE {lo : List CeO} {h : Hp} {ms : List Hp} (R : RdL cC 3 h ms v (lo.map ML)) : RdL KM 3 h ms v lo := ⟨by have := R.rd; rwa [Lc, List.length_map] at this, LU⟩
theorem WQ {lo : List CeO} {m : Hp} (O : OwnL KM 3 59 m v lo) : OwnL cC 3 59 m v (lo.map ML) := ⟨by have := O.own; rwa [Lc, List.length_map], BP⟩
def StpO (o oi : List CeO) (i : Nat) : Prop := oi.length = o.length ∧ ∀ j (h : j < oi.length) (h' : j < o.length), oi[j].c.id = o[j].c.id ∧ oi[j].c.dim = o[j].c.dim ∧ oi[j].c.sd.Perm o[j].c.sd ∧ (j < i → oi[j].c.sd.Pairwise fun a b => a.1 ≤ b.1)
theorem StpO.start (o : List CeO) : StpO o o 0 := ⟨rfl, fun j h h' => ⟨rfl, rfl, List.Perm.refl _, fun q => absurd q (by omega)⟩⟩
theorem StpO.step {o : List CeO} {i : Nat} (S : StpO o oi i) (hi : i < oi.length) {s : List (Int × Int)} (hp : s.Perm oi[i].c.sd) (hs : s.Pairwise fun a b => a.1 ≤ b.1) {hv : v.oneCell' = true} : StpO o (oi.set i ⟨⟨oi[i].c.id, oi[i].c.dim, s⟩, v, hv⟩) (i + 1) := by
 refine ⟨by rw [List.length_set]; exact S.1, fun j h h' => ?_⟩
 rw [List.length_set] at h
 obtain ⟨a, b, c, d⟩ := S.2 j h h'
 by_cases e : i = j
 ·subst e
  simp only [List.getElem_set_self]
  exact ⟨a, b, hp.trans c, fun _ => hs⟩
 ·simp only [List.getElem_set_ne e]
  exact ⟨a, b, c, fun q => d (by omega)⟩
theorem StpO.can {o : List CeO} (S : StpO o oi o.length) (hp : (o.map CeO.c).Perm l) (hi : o.Pairwise fun a b => a.c.id ≤ b.c.id) : CanO l (oi.map CeO.c) := by
 have hl := S.1
 have hid : (oi.map CeO.c).map Cl.id = (o.map CeO.c).map Cl.id := List.ext_getElem (by simp [hl]) fun i h1 h2 => by
  simp only [List.getElem_map]
  exact (S.2 i (by simpa using h1) (by simpa using h2)).1
 refine ⟨by rw [hid]; exact hp.map _, ?_, o.map CeO.c, hp, by simp [hl], fun i h h' => ?_⟩
 ·refine List.pairwise_map.2 ?_
  rw [List.pairwise_iff_getElem] at hi ⊢
  intro i j h1 h2 hij
  have := hi i j (by omega) (by omega) hij
  have e1 := (S.2 i h1 (by omega)).1
  have e2 := (S.2 j h2 (by omega)).1
  omega
 ·rw [List.length_map] at h h'
  simp only [List.getElem_map]
  obtain ⟨a, b, c, d⟩ := S.2 i h h'
  exact ⟨a, b, c, d h'⟩
theorem Sx {i : Nat} {a b : CeO} (h : a ∈ oi.set i b) : a = b ∨ a ∈ oi := (List.mem_or_eq_of_mem_set h).symm
theorem Iq (l : List Ce) (v : Value) (hp : Hp) (hn : l.length ≤ 1000000) (hs : ∀ a ∈ l, a.c.sd.length ≤ 1000000) (hR : RdC hp v l) : FnT Tryz.prog 66 #[.agg #[v]] hp [] (fun r h' ms' => hp.le h' ∧ ∃ m A v', ms' = [m] ∧ r = .agg #[v'] ∧ OwnL cC 3 59 m v' A ∧ CanO (l.map Ce.c) (A.map Ce.c) ∧ ∀ a ∈ A, RdL cD 2 h' [] a.v a.c.sd) := by
 have o1 := hR.q.rd.one
 obtain ⟨lo, e⟩ := YE (fun a ha => (hR.s a ha).rd.one)
 have e : lo.map ML = l := e
 refine Av func66 ntmps66 rfl rfl (fun w0 hw0 => ?_)
 simp only [A5]
 refine Az ?_
 refine A8 [_] rfl rfl (by rfl) rfl rfl rfl (fun g1 => ?_)
 refine C4 [.slice none 0 0] rfl Bi rfl rfl (fun g2 => An (CZ 1 rfl fun h1 l1 hS => ?_))
 have hR := hR.up l1
 have hA := Seg.all hS
 have c0 : ∀ ms, Cell h1 ms (⟨g1, 0, none⟩ : Addr) v := fun ms => hA 0 _ rfl ms
 have hRo : RdL KM 3 h1 [] v lo := WE (by rw [e]; exact hR.q)
 have hlo : lo.length = l.length := by rw [← e, List.length_map]
 refine Az (Qf BX rfl (Ql rfl underlying27 (c0 _) (Qc call93 rfl (OJ lo v h1 hRo (by omega)) (fun r h2 ms2 l2 hF => ?_))))
 obtain ⟨l2', m, o, rfl, hO, hP, hI⟩ := hF
 have ovr : r.oneCell' = true := (hO.rd (h := h2) (ms := [m]) (List.Mem.head _)).rd.one
 have hol : o.length = l.length := by rw [hP.length_eq, hlo]
 have hRs : ∀ a ∈ o, RdL cD 2 h2 [] a.v a.c.sd ∧ a.c.sd.length ≤ 1000000 := fun a ha => by
  have : ML a ∈ l := by rw [← e]; exact List.mem_map.2 ⟨a, hP.mem_iff.1 ha, rfl⟩
  exact ⟨(hR.s _ this).up l2, hs _ this⟩
 refine Qm rfl (An (Ac (Az (Qm rfl (Qx (AC (hO.rd (List.Mem.head _)).rd rfl underlying27 rfl) rfl (Qm rfl (An (Ah ?_))))))))
 refine AD (fun q sl h' ms' => ∃ (i : Nat) (m : Hp) (oi : List CeO), q = o.length - i ∧ sl = [(2, .pointer (some ⟨g2, 0, none⟩)), (3, r), (9, .int .i64 o.length), (10, .int .i64 i)] ∧ h2.le h' ∧ ms' = [m, Bf g2 29 [.slice none 0 0]] ∧ i ≤ o.length ∧ OwnL KM 3 59 m r oi ∧ StpO o oi i ∧ ∀ a ∈ oi, RdL cD 2 h' [] a.v a.c.sd ∧ a.c.sd.length ≤ 1000000)
  (o.length - 0) _ ⟨0, m, o, rfl, rfl, Hp.le_refl _, rfl, by omega, hO, StpO.start o, hRs⟩ Qs ?_
 rintro q sl h3 ms' ⟨i, m, oi, rfl, rfl, l3, rfl, hi, hO, hSt, hRs⟩
 have ovr : r.oneCell' = true := (hO.rd (h := h3) (ms := [m]) (List.Mem.head _)).rd.one
 have hoil := hSt.1
 refine Az (Qm rfl (An (Ac ?_)))
 refine Ax rfl (fun hlt => ?_) (fun hlt => ?_)
 ·have hil : i < oi.length := by omega
  obtain ⟨hRi, hRn⟩ := hRs _ (List.getElem_mem hil)
  have c2 : ∀ ms, m ∈ ms → Cell h3 ms (((AI r).add (i * 3)).add 2) oi[i].v := fun ms hm => (hO.rd hm).cell hil (f := 2) rfl
  have ovi := hRi.rd.one
  refine Ai (Ad (Ac (Ah (Az (Qm rfl (Qm rfl (GZ (Qm rfl (Qm rfl (Qm rfl (Qm rfl (Qx (Af (i) (hO.rd (List.Mem.head _)).rd rfl underlying27 AH rfl rfl (by omega) (by omega)) rfl (Qf Bl rfl (Ql rfl underlying57 (c2 _ (List.Mem.head _)) (Qc call95 rfl (OK oi[i].c.sd oi[i].v h3 hRi hRn) (fun rS h4 ms4 l4 hF => ?_))))))))))))))))
  obtain ⟨l4', mS, s, rfl, hOS, hPS, hIS⟩ := hF
  refine A7 hOS fun h5 l5 hRS => ?_
  have ovS := hRS.rd.one
  refine Qx (Af (i) (hO.rd (List.Mem.head _)).rd rfl underlying27 AH rfl rfl (by omega) (by omega)) rfl (Qf Bl rfl ?_)
  refine L4 0 i 2 ⟨⟨oi[i].c.id, oi[i].c.dim, s⟩, rS, ovS⟩ [rS] hO rfl NW rfl rfl hRS.rd.cells rfl (fun c hc => by rw [List.mem_singleton.1 hc]; exact ovS) rfl hil (by omega) rfl rfl rfl (fun m' hO' => ?_)
  refine Ak (Aj (Ad (Ab (Qx (oA rfl) rfl (Qm rfl (Ak ?_))))))
  exact Am (o.length - (i + 1)) _ (by omega) ⟨i + 1, m', _, rfl, rfl, Hp.le_trans l3 (Hp.le_trans l4 l5), rfl, by omega, hO', hSt.step hil hPS hIS, fun a ha => by
   rcases Sx ha with rfl | ha
   ·exact ⟨hRS, by show s.length ≤ _; rw [hPS.length_eq]; exact hRn⟩
   ·exact ⟨(hRs a ha).1.up (Hp.le_trans l4 l5), (hRs a ha).2⟩⟩ Qs
 ·obtain rfl : i = o.length := by omega
  have hcan : CanO (l.map Ce.c) (oi.map CeO.c) := hSt.can (by rw [← e, List.map_map]; exact hP.map _) hI
  have hOe := WQ hO
  have hfin : ∀ a ∈ oi.map ML, RdL cD 2 h3 [] a.v a.c.sd := fun a ha => by
   obtain ⟨b, hb, rfl⟩ := List.mem_map.1 ha
   exact (hRs b hb).1
  have hmm : (oi.map ML).map Ce.c = oi.map CeO.c := by rw [List.map_map]; rfl
  obtain ⟨ar, cr, rfl, _⟩ := (hO.rd (h := h3) (ms := [m]) (List.Mem.head _)).rd.ex
  refine Aw (Aa (Aa (Ag (Ad (Az (Qm rfl (Qx (A6 Po [.slice none 0 0] [(0, _)] [_] rfl Bi rfl rfl Qt rfl) rfl ?_)))))))
  refine Sa 1 [_] Bi rfl (by simp [Value.oneCell']) ?_
  refine An (Aq ?_)
  exact C7 (vs := [_]) 1 rfl rfl underlying29 rfl Bi rfl rfl (⟨Hp.le_trans l1 (Hp.le_trans l2 l3), m, oi.map ML, _, rfl, rfl, hOe, by rw [hmm]; exact hcan, hfin⟩)
end Go.Proofs.YtodheebhahdepaaGreat
namespace Go.Proofs.YtodheebhahdepaaGreat
open Go.Proofs.Tryz
open Go.Eng Go.RowKit
def kN (a : Int) : Value := .int .i64 a
theorem Ba : JS Tryz.prog 3 kN Bq where
 law := Maps.int_keyed underlying3
 inj := fun a b h => by
  unfold kN at h
  simpa using h
 key := fun b h => ⟨_, Maps.keyOf_int_mk underlying3 (WalkArith.wf_i64 h)⟩
def vC (a : Ce) : Value := .agg (cC a).toArray
theorem Nk (w : World) : (zeroValue 59).run Tryz.prog w = .ok (vC default) w := by rfl
theorem E3 {a h m : Hp} (hl : a.le h) (hd : h.disj m) : a.disj m := fun g => by
 rcases hd g with e | e
 ·left
  cases ha : a g with
  | none => rfl
  | some o => rw [hl g o ha] at e; cases e
 ·exact .inr e
def Og (U : List Ce) (a : Ce) : List Ce := if a.c.id ∈ U.map (fun b => b.c.id) then U else U ++ [a]
def O4 (A : List Ce) : List Ce := A.foldl Og []
theorem SQ {A : List Ce} {i : Nat} (hi : i < A.length) : O4 (A.take (i + 1)) = Og (O4 (A.take i)) A[i] := by
 unfold O4
 rw [List.take_succ_eq_append_getElem hi, List.foldl_append]; rfl
theorem Jj : ∀ (A U : List Ce), ∀ a ∈ A.foldl Og U, a ∈ U ∨ a ∈ A
 | [], U, a, h => .inl h
 | b :: A, U, a, h => by
  rcases Jj A (Og U b) a h with h | h
  ·unfold Og at h
   split at h
   ·exact .inl h
   ·rcases List.mem_append.1 h with h | h
    ·exact .inl h
    ·rw [List.mem_singleton.1 h]; exact .inr (List.Mem.head _)
  ·exact .inr (List.mem_cons_of_mem _ h)
theorem QJ : ∀ (A U : List Ce), ((U ++ A).map fun a => a.c.id).Nodup → A.foldl Og U = U ++ A
 | [], U, _ => by simp
 | a :: A, U, h => by
  have e : Og U a = U ++ [a] := by
   unfold Og
   rw [if_neg]
   intro hm
   rw [List.map_append, List.nodup_append] at h
   exact h.2.2 _ hm _ (by simp) rfl
  rw [List.foldl_cons, e, QJ A (U ++ [a]) (by rwa [List.append_assoc])]
  simp
theorem TW {A : List Ce} (h : (A.map fun a => a.c.id).Nodup) : O4 A = A := by
 have := QJ A [] (by simpa using h)
 simpa [O4] using this
theorem Tk : ∀ (A U : List Ce), (A.foldl Og U).length ≤ U.length + A.length
 | [], U => by simp
 | a :: A, U => by
  have h1 := Tk A (Og U a)
  have h2 : (Og U a).length ≤ U.length + 1 := by unfold Og; split <;> simp
  rw [List.foldl_cons, List.length_cons]; omega
def Hb (U : List Ce) : List (Int × Ce) := U.map fun a => (a.c.id, a)
theorem Nd (U : List Ce) : (Hb U).map Prod.fst = U.map fun a => a.c.id := by unfold Hb; rw [List.map_map]; rfl
theorem UT {U : List Ce} {i : Int} {b : Bool} (h : (AZ (Hb U) i).isSome = b) : i ∈ U.map (fun a => a.c.id) ↔ b = true := by
 subst h
 rw [← Nd]
 constructor
 ·intro hm
  cases hg : AZ (Hb U) i with
  | some _ => rfl
  | none =>
   exfalso
   unfold AZ at hg
   rw [Option.map_eq_none_iff, List.find?_eq_none] at hg
   obtain ⟨p, hp, e⟩ := List.mem_map.1 hm
   have := hg p hp
   simp [e] at this
 ·intro hs
  refine Classical.byContradiction fun hm => ?_
  rw [Ck hm] at hs; cases hs
def RdT (h : Hp) (g : Nat) (U : List Ce) : Prop := ∃ gm m bs vids, Seg h [] ⟨g, 0, none⟩ [.map (some gm), vids] ∧ BK kN vC gm Bq m (Hb U) bs ∧ m.le h ∧ RdL cI 1 h [] vids (U.map fun a => a.c.id) ∧ ∀ a ∈ U, RdL cD 2 h [] a.v a.c.sd
theorem RdT.up {h h' : Hp} {g : Nat} {U : List Ce} (R : RdT h g U) (l : h.le h') : RdT h' g U := by
 obtain ⟨gm, m, bs, vids, h1, h2, h3, h4, h5⟩ := R
 exact ⟨gm, m, bs, vids, h1.le l, h2, Hp.le_trans h3 l, h4.up l, fun a ha => (h5 a ha).up l⟩
structure OfOk (l : List Ce) : Prop where
 n : l.length ≤ 1000000
 s : ∀ a ∈ l, a.c.sd.length ≤ 1000000
 i : ∀ a ∈ l, Bq a.c.id
theorem V9 (l : List Ce) (v : Value) (hp : Hp) (hK : OfOk l) (hR : RdC hp v l) : FnT Tryz.prog 50 #[.agg #[v]] hp [] (fun r h' ms' => hp.le h' ∧ ms' = [] ∧ ∃ g A, r = .pointer (some ⟨g, 0, none⟩) ∧ CanO (l.map Ce.c) (A.map Ce.c) ∧ RdT h' g (O4 A)) := by
 have o1 := hR.q.rd.one
 refine Av func50 ntmps50 rfl rfl (fun w0 hw0 => ?_)
 simp only [A5]
 refine Az ?_
 refine A8 [_] rfl rfl (by rfl) rfl rfl rfl (fun g1 => ?_)
 refine Qm rfl (An (AA fun h1 l1 hS => ?_))
 have hR := hR.up l1
 have hA := Seg.all hS
 refine Bz (Az (Cd (K := kN) (V := vC) (Ok := Bq) rfl rfl rfl rfl (fun gm mM hM => Qx (A6 XA [.map none, .slice none 0 0] [(0, _)] [_, _] rfl Xy rfl rfl Qt rfl) rfl ?_)))
 refine A8 [_, _] rfl rfl (by rfl) rfl rfl rfl (fun g10 => ?_)
 refine Qm rfl (An (Ac (Az (Qx (oG rfl underlying29 Bi (Seg.any hS)) rfl (Qc call66 rfl (Iq l v h1 hK.n hK.s hR) (fun rC h2 ms2 l2 hF => ?_))))))
 obtain ⟨l2', mA, A, vA, rfl, rfl, hOA, hC, hsA⟩ := hF
 refine A7 hOA fun h3 l3 hQ => ?_
 have hsA := fun a ha => (hsA a ha).up l3
 have ovA := hQ.rd.one
 have hAl : A.length = l.length := by have := hC.len; rwa [List.length_map, List.length_map] at this
 have hAn : A.length ≤ 1000000 := by rw [hAl]; exact hK.n
 refine Qx (Ff rfl underlying29 rfl underlying27 rfl rfl rfl) rfl (Qx (AC hQ.rd.any rfl underlying27 rfl) rfl (Qm rfl (An (Ah ?_))))
 refine AD (fun q sl h' ms' => ∃ (i : Nat) (vI : Value) (mI mM : Hp) (bs : List Nat), q = A.length - i ∧ sl = [(3, .pointer (some ⟨g10, 0, none⟩)), (13, vA), (14, .int .i64 A.length), (15, .int .i64 i)] ∧ h3.le h' ∧ ms' = [Bf g10 115 [.map (some gm), vI], mM, mI] ∧ i ≤ A.length ∧ BK kN vC gm Bq mM (Hb (O4 (A.take i))) bs ∧ OwnL cI 1 3 mI vI ((O4 (A.take i)).map fun a => a.c.id))
  (A.length - 0) _ ⟨0, _, Hp.emp, mM, [], rfl, rfl, Hp.le_refl _, rfl, by omega, hM, OwnL.nil AT⟩ Qs ?_
 rintro q sl h4 ms' ⟨i, vI, mI, mM, bs, rfl, rfl, l4, rfl, hi, hM, hOI⟩
 have hQ := hQ.up l4
 refine Az (Qm rfl (An (Ac ?_)))
 refine Ax rfl (fun hlt => ?_) (fun hlt => ?_)
 ·have hil : i < A.length := by omega
  obtain ⟨x, hx⟩ : ∃ x, A[i] = x := ⟨_, rfl⟩
  have hxm : x ∈ A := by rw [← hx]; exact List.getElem_mem hil
  have hU := SQ hil
  rw [hx] at hU
  obtain ⟨U, hUe⟩ : ∃ U, O4 (A.take i) = U := ⟨_, rfl⟩
  rw [hUe] at hM hOI hU
  have oxv := (hsA x hxm).rd.one
  have hsx : ∀ ms, Seg h4 ms ((AI vA).add (i * 3)) (cC x) := fun ms => by rw [← hx]; exact (hQ.any (ms := ms)).seg hil
  have ovI : vI.oneCell' = true := (hOI.rd (h := h4) (ms := [mI]) (List.Mem.head _)).rd.one
  obtain ⟨bb, hbb⟩ : ∃ bb, (AZ (Hb U) x.c.id).isSome = bb := ⟨_, rfl⟩
  have hin := UT hbb
  refine Ai (Ad ?_)
  refine AV (fun sl h' ms' => ∃ (vI : Value) (mI mM : Hp) (bs : List Nat), sl = [(3, .pointer (some ⟨g10, 0, none⟩)), (13, vA), (14, .int .i64 A.length), (15, .int .i64 i)] ∧ h4.le h' ∧ ms' = [Bf g10 115 [.map (some gm), vI], mM, mI] ∧ BK kN vC gm Bq mM (Hb (Og U x)) bs ∧ OwnL cI 1 3 mI vI ((Og U x).map fun a => a.c.id)) ?_ (fun s h ms hI => ?_)
  ·refine Ah (Az (Qx (Af (i) hQ.rd.any rfl underlying27 AH rfl rfl (by omega) (by omega)) rfl (Qx (oG rfl underlying59 AH (hsx _)) rfl (C4 [.int .i64 0, .int .i64 0, .slice none 0 0] rfl AH rfl rfl (fun g5 => ?_)))))
   refine Sa 0 [_, _, _] AH rfl (by simp [o1, ovA, oxv, ovI]) ?_
   refine An (AA fun h5 l5 hS5 => ?_)
   have e5 := Seg.all hS5
   have e50 : ∀ ms, Cell h5 ms (⟨g5, 0, none⟩ : Addr) (.int .i64 x.c.id) := fun ms => e5 0 _ rfl ms
   refine FB fun h6 l6 lB dB LB => (FB fun h7 l7 lM dM LM => ?_)
   have e10 := Seg.all (Seg.ofLe (Hp.le_trans lB l7))
   have e50' : ∀ ms, Cell h7 ms (⟨g5, 0, none⟩ : Addr) (.int .i64 x.c.id) := fun ms => (e50 ms).le (Hp.le_trans l6 l7)
   have e100 : ∀ ms, Cell h7 ms (⟨g10, 0, none⟩ : Addr) (.map (some gm)) := fun ms => e10 0 _ rfl ms
   have hid : Bq x.c.id := by
    obtain ⟨y, hy, e, _⟩ := hC.sim.mem x.c (List.mem_map.2 ⟨x, hxm, rfl⟩)
    obtain ⟨z, hz, rfl⟩ := List.mem_map.1 hy
    rw [e]; exact hK.i z hz
   obtain ⟨y, hy⟩ : ∃ y, (AZ (Hb U) x.c.id).getD default = y := ⟨_, rfl⟩
   have oyv : y.v.oneCell' = true := by
    rw [← hy]
    cases hg : AZ (Hb U) x.c.id with
    | none => rfl
    | some z =>
     unfold AZ at hg
     obtain ⟨p, hp, rfl⟩ := Option.map_eq_some_iff.1 hg
     obtain ⟨a, ha, rfl⟩ := List.mem_map.1 (List.mem_of_find?_eq_some hp)
     have ha : a ∈ O4 (A.take i) := by rw [hUe]; exact ha
     rcases Jj _ _ a ha with h | h
     ·cases h
     ·exact (hsA a (List.mem_of_mem_take h)).rd.one
   refine AV (fun sl h' ms' => ∃ g6 : Nat, sl = [(3, .pointer (some ⟨g10, 0, none⟩)), (5, .pointer (some ⟨g5, 0, none⟩)), (7, .bool bb), (13, vA), (14, .int .i64 A.length), (15, .int .i64 i)] ∧ h7 = h' ∧ ms' = [Bf g6 59 (cC y), mI]) ?_ (fun s h ms hI => ?_)
   ·refine B4 (n := 13) (bs := [true, true, true, true, true, true, true, true, true, true, false, false, false]) [true, true, true, true, true, true, true, true, true, true] CN (by kernel_rfl) (by kernel_rfl) rfl rfl (Qq rfl (Qq rfl (QF Gz rfl (QL rfl underlying113 (e100 _) (QF Bo rfl (QL rfl underlying3 (e50' _) (Qp rfl (DG (V := vC) (z := (default : Ce)) x.c.id hy hbb Ba hM lM rfl underlying113 Nk rfl rfl hid) (Qq rfl (Qq rfl (Qq rfl ?_))))))))))
    unfold GI
    simp only [List.cons_append, List.nil_append]
    refine Qo 10 rfl (C4 [.int .i64 0, .int .i64 0, .slice none 0 0] rfl AH rfl rfl (fun g6 => Qw (Qo 11 rfl ?_)))
    refine Sa 0 [_, _, _] AH rfl (by simp [o1, ovA, oxv, ovI, oyv]) ?_
    refine Qw (Qo 12 rfl (Qm rfl (Qw (Qe ?_))))
    exact Ay _ ⟨g6, rfl, rfl, rfl⟩ Qs
   ·obtain ⟨g6, rfl, rfl, rfl⟩ := hI
    refine Jh (EP LM lM fun h8 q8 b8 => ?_)
    have lB8 : (Bf g10 115 [.map (some gm), vI]).le h8 := b8 _ (Hp.le_trans lB l7) (E3 lB dM)
    refine EP LB lB8 fun h9 q9 b9 => ?_
    have l59 : h5.le h9 := b9 _ (b8 _ (Hp.le_trans l6 l7) (E3 l6 dM)) dB
    have l39 : h3.le h9 := Hp.le_trans l4 (Hp.le_trans l5 l59)
    have e50 : ∀ ms, Cell h9 ms (⟨g5, 0, none⟩ : Addr) (.int .i64 x.c.id) := fun ms => (e50 ms).le l59
    have hS9 := hS5.le l59
    refine Az (Qm rfl (Qm rfl (An ?_)))
    refine Bu rfl (fun hn => ?_) (fun hn => ?_)
    ·have hbf : bb = false := by cases bb <;> simp at hn ⊢
     have hni : x.c.id ∉ U.map fun a => a.c.id := fun q => by rw [hin.1 q] at hbf; cases hbf
     have hUU : Og U x = U ++ [x] := if_neg hni
     have hset : Cr (Hb U) x.c.id x = Hb (U ++ [x]) := by
      unfold Cr
      rw [if_neg (by rw [Nd]; exact hni)]
      unfold Hb
      rw [List.map_append]; rfl
     have hUl : U.length ≤ i := by rw [← hUe]; exact Nat.le_trans (Tk _ []) (by simp; omega)
     rw [hUU]
     refine AV (fun sl h' ms' => ∃ (mM : Hp) (bs : List Nat), sl = [(3, .pointer (some ⟨g10, 0, none⟩)), (5, .pointer (some ⟨g5, 0, none⟩)), (13, vA), (14, .int .i64 A.length), (15, .int .i64 i)] ∧ h9 = h' ∧ ms' = [Bf g10 115 [.map (some gm), vI], mM, mI] ∧ BK kN vC gm Bq mM (Hb (U ++ [x])) bs) ?_ (fun s h ms hI => ?_)
     ·refine B4 (n := 8) (bs := [true, true, true, false, true, true, true, false]) [true, true, true, false, true, true, true] CN (by kernel_rfl) (by kernel_rfl) rfl rfl (Qq rfl (Qq rfl (QF Gz rfl (QF Bo rfl (QL rfl underlying3 (e50 _) (Qp rfl (oG rfl underlying59 AH (Seg.any hS9)) ?_))))))
      unfold GI
      simp only [List.cons_append, List.nil_append]
      refine Qo 3 rfl (Ql rfl underlying113 (Cell.blk 0 rfl rfl) (Qw (Qo 7 rfl (Bp (V := vC) (z := undef) 1 x.c.id x Ba hM rfl rfl underlying113 rfl rfl rfl hid rfl rfl (fun mM' bs' hM' => Qw (Qe ?_))))))
      rw [hset] at hM'
      exact Ay _ ⟨mM', bs', rfl, rfl, rfl, hM'⟩ Qs
     ·obtain ⟨mM, bs, rfl, rfl, rfl, hM⟩ := hI
      refine B4 (n := 12) (bs := [true, true, true, true, false, true, true, false, false, true, true, false]) [true, true, true, true, false, true, true, false, false, true, true] CN (by kernel_rfl) (by kernel_rfl) rfl rfl (Qq rfl (Qq rfl (Qq rfl (QF PL rfl (QF Bo rfl (QL rfl underlying3 (e50 _) (Qq rfl (QF PL rfl ?_))))))))
      unfold GI
      simp only [List.cons_append, List.nil_append]
      refine A0 [4, 7] (by kernel_rfl) rfl ?_
      refine AB rfl ?_ ?_
      ·refine Ql rfl underlying25 (Cell.blk 0 rfl rfl) (Qw (Qo 7 rfl ?_))
       refine Ao [_] rfl underlying25 Bm rfl (by rfl) rfl rfl (by omega) rfl rfl rfl (fun g45 => ?_)
       refine Qw (Qo 8 rfl ?_)
       refine AJ 3 hOI (RdL.one AT (x := x.c.id) (List.Mem.head _) rfl) rfl underlying25 Bm rfl (by omega) rfl rfl rfl BW (by (try simp only [List.length_singleton, List.length_map]); omega) (by (try simp only [List.length_singleton, List.length_map]); omega) rfl rfl rfl (fun vI2 mI2 hOI2 => ?_)
       have ovI2 : vI2.oneCell' = true := (hOI2.rd (h := h9) (ms := [mI2]) (List.Mem.head _)).rd.one
       refine Qw (Qo 11 rfl ?_)
       refine AK 1 _ rfl Cn rfl rfl (by assumption) rfl rfl (by (simp; done)) rfl rfl ?_
       refine Qw (Qe ?_)
       rw [show (U.map fun a => a.c.id) ++ [x.c.id] = (U ++ [x]).map fun a => a.c.id by rw [List.map_append]; rfl] at hOI2
       refine AS (Aj ?_)
       exact Ay _ ⟨vI2, mI2, mM, bs, rfl, Hp.le_trans l5 l59, rfl, hM, hOI2⟩ Qs
      refine AB rfl ?_ ?_
      ·refine Ao [_] rfl underlying25 Bm rfl (by rfl) rfl rfl (by omega) rfl rfl rfl (fun g45 => ?_)
       refine Qw (Qo 4 rfl (Ql rfl underlying25 (Cell.blk 1 rfl rfl) (Qw (Qo 8 rfl ?_))))
       refine AJ 3 hOI (RdL.one AT (x := x.c.id) (List.Mem.head _) rfl) rfl underlying25 Bm rfl (by omega) rfl rfl rfl BW (by (try simp only [List.length_singleton, List.length_map]); omega) (by (try simp only [List.length_singleton, List.length_map]); omega) rfl rfl rfl (fun vI2 mI2 hOI2 => ?_)
       have ovI2 : vI2.oneCell' = true := (hOI2.rd (h := h9) (ms := [mI2]) (List.Mem.head _)).rd.one
       refine Qw (Qo 11 rfl ?_)
       refine AK 1 _ rfl Cn rfl rfl (by assumption) rfl rfl (by (simp; done)) rfl rfl ?_
       refine Qw (Qe ?_)
       rw [show (U.map fun a => a.c.id) ++ [x.c.id] = (U ++ [x]).map fun a => a.c.id by rw [List.map_append]; rfl] at hOI2
       refine AS (Aj ?_)
       exact Ay _ ⟨vI2, mI2, mM, bs, rfl, Hp.le_trans l5 l59, rfl, hM, hOI2⟩ Qs
      exact A3
    ·have hbt : bb = true := by cases bb <;> simp at hn ⊢
     have hUU : Og U x = U := if_pos (hin.2 hbt)
     rw [hUU]
     refine Ai (Aj ?_)
     exact Ay _ ⟨vI, mI, mM, bs, rfl, Hp.le_trans l5 l59, rfl, hM, hOI⟩ Qs
  ·obtain ⟨vI, mI, mM, bs, rfl, k9, rfl, hM, hOI⟩ := hI
   refine Ab (Qx (oA rfl) rfl (Qm rfl (Ak ?_)))
   exact Am (A.length - (i + 1)) _ (by omega) ⟨i + 1, vI, mI, mM, bs, rfl, rfl, Hp.le_trans l4 k9, rfl, by omega, by rw [hU]; exact hM, by rw [hU]; exact hOI⟩ Qs
 ·obtain rfl : i = A.length := by omega
  rw [List.take_length] at hM hOI
  refine Aw (Aa (Aa (Ag (Ad (Az (Qm rfl (Qm rfl (An (Aq (G6 fun h5 l5 k5 => (G6 fun h6 l6 k6 => (G6 fun h7 l7 k7 => ?_))))))))))))
  have hT : RdT h7 g10 (O4 A) := ⟨gm, mM, bs, vI, Seg.ofLe (Hp.le_trans k5 (Hp.le_trans l6 l7)), hM, Hp.le_trans k6 l7, hOI.rdh k7, fun a ha => by
   rcases Jj _ _ a ha with h | h
   ·cases h
   ·exact (hsA a h).up (Hp.le_trans l4 (Hp.le_trans l5 (Hp.le_trans l6 l7)))⟩
  exact As rfl rfl (⟨Hp.le_trans l1 (Hp.le_trans l2 (Hp.le_trans l3 (Hp.le_trans l4 (Hp.le_trans l5 (Hp.le_trans l6 l7))))), rfl, g10, A, rfl, hC, hT⟩)
end Go.Proofs.YtodheebhahdepaaGreat
namespace Go.Proofs.YtodheebhahdepaaGreat
open Go.Eng Go.RowKit
variable {gM : Nat} {mM : Hp}
def KN (v : Value) : Value := v
structure OwnMS (gM : Nat) (mM mB : Hp) (T : List (Int × List Int)) : Prop where
 ex : ∃ (Tv : List (Int × Value)) (bs : List Nat), BK kN KN gM Bq mM Tv bs ∧ Tv.map Prod.fst = T.map Prod.fst ∧ Bag T.length (fun l m => ∃ p, Tv[l]? = some p ∧ OwnL cI 1 3 m p.2 ((T.map Prod.snd).getD l [])) mB
theorem OwnMS.start (O : BK kN KN gM Bq mM ([] : List (Int × Value)) []) : OwnMS gM mM Hp.emp [] := ⟨[], [], O, rfl, Bag.zero _⟩
theorem Gn {ν : Type} {T : List (Int × ν)} {a : Int} (h : a ∈ T.map Prod.fst) : ∃ (l : Nat) (x : ν), T[l]? = some (a, x) := by
 obtain ⟨p, hp, rfl⟩ := List.mem_map.1 h
 obtain ⟨l, hl, e⟩ := List.getElem_of_mem hp
 exact ⟨l, p.2, by rw [List.getElem?_eq_getElem hl, e]⟩
theorem Lp {ν μ : Type} {T : List (Int × ν)} {T' : List (Int × μ)} (h : T'.map Prod.fst = T.map Prod.fst) {l : Nat} {a : Int} {x : ν} (e : T[l]? = some (a, x)) : ∃ y, T'[l]? = some (a, y) := by
 have h1 : (T'.map Prod.fst)[l]? = (T.map Prod.fst)[l]? := by rw [h]
 rw [List.getElem?_map, List.getElem?_map, e] at h1
 cases h2 : T'[l]? with
 | none => rw [h2] at h1; cases h1
 | some p =>
  rw [h2] at h1
  have : p.1 = a := Option.some.inj h1
  exact ⟨p.2, by rw [← this]⟩
theorem OwnMS.open {mB : Hp} {T : List (Int × List Int)} (M : OwnMS gM mM mB T) (a : Int) : ∃ (Tv : List (Int × Value)) (bs : List Nat) (v : Value) (m1 m2 : Hp), BK kN KN gM Bq mM Tv bs ∧ (AZ Tv a).getD (.slice none 0 0) = v ∧ mB = m1.join m2 ∧ m1.disj m2 ∧ OwnL cI 1 3 m1 v ((AZ T a).getD []) ∧
  ∀ v' L' m1' mM' bs', m1'.disj m2 → OwnL cI 1 3 m1' v' L' → BK kN KN gM Bq mM' (Cr Tv a v') bs' → OwnMS gM mM' (m1'.join m2) (Cr T a L') := by
 obtain ⟨Tv, bs, hO, hK, hB⟩ := M.ex
 have hnd : (T.map Prod.fst).Nodup := by rw [← hK]; exact hO.keys
 have hlen : Tv.length = T.length := by have := congrArg List.length hK; simpa using this
 by_cases ha : a ∈ T.map Prod.fst
 ·obtain ⟨l, L, hl⟩ := Gn ha
  obtain ⟨v, hv⟩ := Lp hK hl
  have hlT : l < T.length := (List.getElem?_eq_some_iff.1 hl).1
  obtain ⟨m1, m2, e, hd, ⟨p, hp, hO1⟩, hrest, hclose⟩ := hB.open hlT
  have hpv : p = (a, v) := by rw [hv] at hp; exact (Option.some.inj hp).symm
  subst hpv
  have hL : (T.map Prod.snd).getD l [] = L := by simp [List.getD, hl]
  rw [hL] at hO1
  refine ⟨Tv, bs, v, m1, m2, hO, by rw [Di hO.keys hv]; rfl, e, hd, by rw [Di hnd hl]; exact hO1, fun v' L' m1' mM' bs' hd' hO' hM' => ?_⟩
  rw [Ie hO.keys hv] at hM'
  rw [Ie hnd hl]
  refine ⟨_, bs', hM', by rw [List.map_set, List.map_set, hK], ?_⟩
  rw [List.length_set]
  have hlv : l < Tv.length := by omega
  refine hclose _ m1' hd' ⟨(a, v'), by rw [List.getElem?_set_self hlv], ?_⟩ fun k hk hne x hx => ?_
  ·have : ((T.set l (a, L')).map Prod.snd).getD l [] = L' := by simp [List.getD, hlT]
   rw [this]; exact hO'
  ·obtain ⟨p, hp, hx⟩ := hx
   refine ⟨p, by rw [List.getElem?_set_ne (Ne.symm hne)]; exact hp, ?_⟩
   have : ((T.set l (a, L')).map Prod.snd).getD k [] = (T.map Prod.snd).getD k [] := by
    rw [List.map_set]
    simp only [List.getD_eq_getElem?_getD]
    rw [List.getElem?_set_ne (Ne.symm hne)]
   rw [this]; exact hx
 ·have haV : a ∉ Tv.map Prod.fst := by rw [hK]; exact ha
  refine ⟨Tv, bs, .slice none 0 0, Hp.emp, mB, hO, by rw [Ck haV]; rfl, (Hp.emp_join mB).symm, fun g => .inl rfl, by rw [Ck ha]; exact OwnL.nil AT, fun v' L' m1' mM' bs' hd' hO' hM' => ?_⟩
  have e1 : Cr Tv a v' = Tv ++ [(a, v')] := if_neg haV
  have e2 : Cr T a L' = T ++ [(a, L')] := if_neg ha
  rw [e1] at hM'
  rw [e2, Hp.join_comm hd']
  refine ⟨_, bs', hM', by rw [List.map_append, List.map_append, hK]; rfl, ?_⟩
  rw [List.length_append]
  refine Bag.snoc (hB.mono fun l hl x hx => ?_) ⟨(a, v'), by rw [← hlen]; simp, ?_⟩ (Hp.disj_symm hd')
  ·obtain ⟨p, hp, hx⟩ := hx
   refine ⟨p, by rw [List.getElem?_append_left (by omega)]; exact hp, ?_⟩
   have : ((T ++ [(a, L')]).map Prod.snd).getD l [] = (T.map Prod.snd).getD l [] := by
    rw [List.map_append]
    simp only [List.getD_eq_getElem?_getD]
    rw [List.getElem?_append_left (by simpa using hl)]
   rw [this]; exact hx
  ·have : ((T ++ [(a, L')]).map Prod.snd).getD T.length [] = L' := by simp [List.getD]
   rw [this]; exact hO'
theorem OwnMS.look {mB h : Hp} {T : List (Int × List Int)} (M : OwnMS gM mM mB T) (hB : mB.le h) : ∃ (Tv : List (Int × Value)) (bs : List Nat), BK kN KN gM Bq mM Tv bs ∧ Tv.map Prod.fst = T.map Prod.fst ∧ (∀ l (h1 : l < Tv.length) (h2 : l < T.length), Tv[l].1 = T[l].1 ∧ RdL cI 1 h [] Tv[l].2 T[l].2) ∧ ∀ a, RdL cI 1 h [] ((AZ Tv a).getD (.slice none 0 0)) ((AZ T a).getD []) := by
 obtain ⟨Tv, bs, hO, hK, hG⟩ := M.ex
 have hnd : (T.map Prod.fst).Nodup := by rw [← hK]; exact hO.keys
 have hat : ∀ l (h1 : l < Tv.length) (h2 : l < T.length), Tv[l].1 = T[l].1 ∧ RdL cI 1 h [] Tv[l].2 T[l].2 := fun l h1 h2 => by
  obtain ⟨x, hx, p, hp, hO1⟩ := hG.all l h2
  rw [List.getElem?_eq_getElem h1] at hp
  have := Option.some.inj hp
  subst this
  have h3 : (Tv.map Prod.fst)[l]? = (T.map Prod.fst)[l]? := by rw [hK]
  rw [List.getElem?_map, List.getElem?_map, List.getElem?_eq_getElem h1, List.getElem?_eq_getElem h2] at h3
  refine ⟨Option.some.inj h3, ?_⟩
  have h4 : (T.map Prod.snd).getD l [] = T[l].2 := by simp [List.getD, h2]
  rw [h4] at hO1
  exact hO1.rdh (Hp.le_trans hx hB)
 refine ⟨Tv, bs, hO, hK, hat, fun a => ?_⟩
 by_cases ha : a ∈ T.map Prod.fst
 ·obtain ⟨l, L, hl⟩ := Gn ha
  obtain ⟨v, hv⟩ := Lp hK hl
  rw [Di hO.keys hv, Di hnd hl]
  obtain ⟨h1, e1⟩ := List.getElem?_eq_some_iff.1 hv
  obtain ⟨h2, e2⟩ := List.getElem?_eq_some_iff.1 hl
  have := (hat l h1 h2).2
  rw [e1, e2] at this
  exact this
 ·rw [Ck ha, Ck (by rw [hK]; exact ha)]
  exact ⟨Rd.nil _ _ _, AT⟩
end Go.Proofs.YtodheebhahdepaaGreat
