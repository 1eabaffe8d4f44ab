/- A part of the proof. -/
import Derived.Test.YtodheebhahdepaaGreatMC
set_option linter.unusedSimpArgs false
set_option linter.unusedVariables false
set_option linter.unusedSectionVars false
set_option maxRecDepth 100000
set_option maxHeartbeats 4000000

namespace Go.Proofs.YtodheebhahdepaaGreat
open Go.Proofs.Tryz
open Go.Eng Go.RowKit Go.Lin Go.Sort Go.Srt
theorem Ii : ∀ (N : Nat) (d : Array HT) (v : Value) (m : Hp) (hO : OSD m v d) (a t b : Nat) (hN : b - a ≤ N) (hat : a < t) (htb : t < b) (hb : b ≤ d.size) (hsz : d.size ≤ 1000000) (hA : SortedIn Ca a t d) (hB : SortedIn Ca t b d) (h : Hp) (g : Nat) (hg : Q1 h g) {a' t' b' : Int} (ea : a' = a) (et : t' = t) (eb : b' = b),
  FnT Tryz.prog 137 #[v, .int .i64 a', .int .i64 t', .int .i64 b', (Oh g)] h [m] (fun _ h' ms' => h = h' ∧ ∃ m' d', ms' = [m'] ∧ OSD m' v d' ∧ PermIn a b d d' ∧ SortedIn Ca a b d') := by
 intro N
 induction N with
 | zero => intro d v m hO a t b hN hat htb; omega
 | succ N ih =>
 intro d v m hO a t b hN hat htb hb hsz hA hB h g hg a' t' b' ea et eb
 subst ea et eb
 refine Av func137 ntmps137 rfl rfl (fun w0 hw0 => ?_)
 simp only [A5]
 refine Ac (Az (Qm rfl (Qm rfl (Qx (oS rfl) rfl (Qm rfl (An ?_))))))
 refine Ax rfl (fun h1 => ?_) (fun h1 => ?_)
 ·-- one element on the left
  obtain rfl : t = a + 1 := by omega
  refine Az (Qm rfl (Qm rfl (BG (Qm rfl (Qm rfl (An (Ac (Ah ?_))))))))
  refine AD (fun n s h' ms' => ∃ (i j : Nat), n = j - i ∧ s = [(0, v), (1, .int .i64 a), (4, (Oh g)), (10, .int .i64 i), (11, .int .i64 j)] ∧ h = h' ∧ ms' = [m] ∧ a + 1 ≤ i ∧ i ≤ j ∧ j ≤ b ∧ (i = a + 1 ∨ Ca d[i - 1]! d[a]! = true) ∧ (j = b ∨ Ca d[j]! d[a]! = false))
   (b - (a + 1)) _ ⟨a + 1, b, rfl, rfl, rfl, rfl, by omega, by omega, by omega, .inl rfl, .inl rfl⟩ Qs ?_
  rintro n s h' ms' ⟨i, j, rfl, rfl, rfl, rfl, hi, hij, hj, c1, c2⟩
  refine Ac (Az (Qm rfl (Qm rfl (Qm rfl (An ?_)))))
  refine Ax rfl (fun hlt => ?_) (fun hlt => ?_)
  ·refine Ai (Ad (Ah (Az (Qm rfl (Qm rfl (Qx (oA rfl) rfl (Qx (B3 rfl underlying3 underlying106 rfl) rfl (Qx (EW (n := 1) rfl rfl rfl (by omega)) rfl (Qx (B3 rfl underlying106 underlying3 rfl) rfl (Qm rfl (An ?_)))))))))))
   rw [Gb i j (by omega)]
   refine Ac (Bb 9 CN (by kernel_rfl) rfl (Wm rfl (Wm rfl (Wm rfl (AM (Af ((i + j) / 2) (hO.rd (.head _)) rfl underlying57 AR rfl rfl (by omega) (by omega)) rfl rfl (AM (oG rfl underlying81 AR (hO.get (.head _) (by omega))) rfl rfl (Wm rfl (Wm rfl (AM (Af (a) (hO.rd (.head _)) rfl underlying57 AR rfl rfl (by omega) (by omega)) rfl rfl (AM (oG rfl underlying81 AR (hO.get (.head _) (by omega))) rfl rfl (AU (Qx (B0 rfl rfl call116 rfl (LY _ _ _ g hg _)) rfl (Qm rfl (An ?_))))))))))))))
   refine Bu rfl (fun hl => ?_) (fun hl => ?_)
   ·refine Ab (Qm rfl (Qx (oA rfl) rfl (Qm rfl (Ak (Aj ?_)))))
    exact Am (j - ((i + j) / 2 + 1)) _ (by omega) ⟨(i + j) / 2 + 1, j, rfl, rfl, rfl, rfl, by omega, by omega, by omega, .inr (by rw [Nat.add_sub_cancel]; exact hl), c2⟩ Qs
   ·refine Ab (Qm rfl (Qm rfl (Ak (Aj ?_))))
    exact Am ((i + j) / 2 - i) _ (by omega) ⟨i, (i + j) / 2, rfl, rfl, rfl, rfl, by omega, by omega, by omega, c1, .inr hl⟩ Qs
  ·obtain rfl : i = j := by omega
   refine Aw (Aa (Aa (Ag (Ad (Ac (Az (Qm rfl (Qm rfl (An (Ah ?_))))))))))
   refine AD (fun n s h' ms' => ∃ (k : Nat) (d0 : Array HT) (m : Hp), n = i - 1 - k ∧ s = [(0, v), (10, .int .i64 i), (13, .int .i64 k)] ∧ h = h' ∧ ms' = [m] ∧ a ≤ k ∧ k ≤ i - 1 ∧ OSD m v d0 ∧ InsR d d0 a k ∧ PermIn a b d d0)
    (i - 1 - a) _ ⟨a, d, m, rfl, rfl, rfl, rfl, by omega, by omega, hO, InsR.start d a, permIn_refl d a b⟩ Qs ?_
   rintro n s h' ms' ⟨k, d0, m0, rfl, rfl, rfl, rfl, hak, hki, hO0, R, P⟩
   have hds := R.1
   refine Ac (Az (Qm rfl (Qm rfl (Qx (oS rfl) rfl (Qm rfl (An ?_))))))
   refine Ax rfl (fun hltk => ?_) (fun hltk => ?_)
   ·refine Ai (Ad (Ac (Ah (CS 14 [false, false, true, true, true] CN (by kernel_rfl) (by kernel_rfl) (by kernel_rfl) (Dq rfl rfl rfl rfl (BM rfl rfl) (Dq rfl rfl rfl rfl (BM rfl rfl) (Dq rfl rfl rfl rfl (L9 rfl rfl rfl (by omega)) ?_)))))))
    refine ⟨rfl, ?_⟩
    simp only [DI, zap, List.cons_append, List.nil_append, List.take_succ_cons, List.take_zero, List.drop_succ_cons, List.drop_zero, List.take_nil, List.drop_nil]
    refine Wm rfl (Wm rfl (Dl rfl rfl rfl (Dl rfl rfl rfl (Dl rfl rfl rfl (Wm rfl (Wm rfl (AM (oA rfl) rfl rfl (AM (Af (k + 1) (hO0.rd (.head _)) rfl underlying57 AR rfl rfl (by omega) (by omega)) rfl rfl (AM (oG rfl underlying81 AR (hO0.get (.head _) (by omega))) rfl rfl (Wm rfl (Wm rfl (AM (Af (k) (hO0.rd (.head _)) rfl underlying57 AR rfl rfl (by omega) (by omega)) rfl rfl (AM (oG rfl underlying81 AR (hO0.get (.head _) (by omega))) rfl rfl (AU (Qx (Af (k) (hO0.rd (.head _)) rfl underlying57 AR rfl rfl (by omega) (by omega)) rfl (CP 0 _ hO0 rfl AR rfl rfl rfl (by omega) rfl rfl (fun mhO1 hzhO1 hO1 => Qx (Af (k + 1) (hO1.rd (.head _)) rfl underlying57 AR rfl rfl (by omega) (by omega)) rfl (CP 0 _ hO1 rfl AR rfl rfl rfl (by omega) rfl rfl (fun mhO2 hzhO2 hO2 => Ak (Gj (Aj (Ad (Ab (Qm rfl (Qx (oA rfl) rfl (Qm rfl (Ak ?_)))))))))))))))))))))))))))
    exact Am (i - 1 - (k + 1)) _ (by omega) ⟨k + 1, _, mhO2, rfl, rfl, rfl, rfl, by omega, by omega, hO2, R.step hak (by omega), permIn_trans _ _ _ _ _ P (swp_permIn d0 a b k (k + 1) (by omega) (by omega) (by omega) (by omega) (by omega))⟩ Qs
   ·obtain rfl : k = i - 1 := by omega
    refine Aw (Aa (Aa (Ag (Ad (Aq (Ae ?_))))))
    exact Ek rfl (⟨rfl, m0, d0, rfl, hO0, P, Kk HC hB ⟨hi, hj⟩ c1 c2 R⟩)
 ·refine Ai (Ad (Ac (Az (Qm rfl (Qm rfl (Qx (oS rfl) rfl (Qm rfl (An ?_))))))))
  refine Ax rfl (fun h2 => ?_) (fun h2 => ?_)
  ·-- one element on the right
   obtain rfl : b = t + 1 := by omega
   refine Az (Qm rfl (Qm rfl (BG (Qm rfl (Qm rfl (An (Ac (Ah ?_))))))))
   refine AD (fun n s h' ms' => ∃ (i j : Nat), n = j - i ∧ s = [(0, v), (1, .int .i64 a), (2, .int .i64 t), (4, (Oh g)), (14, .int .i64 i), (15, .int .i64 j)] ∧ h = h' ∧ ms' = [m] ∧ a ≤ i ∧ i ≤ j ∧ j ≤ t ∧ (i = a ∨ Ca d[t]! d[i - 1]! = false) ∧ (j = t ∨ Ca d[t]! d[j]! = true))
    (t - a) _ ⟨a, t, rfl, rfl, rfl, rfl, by omega, by omega, by omega, .inl rfl, .inl rfl⟩ Qs ?_
   rintro n s h' ms' ⟨i, j, rfl, rfl, rfl, rfl, hi, hij, hj, c1, c2⟩
   refine Ac (Az (Qm rfl (Qm rfl (Qm rfl (An ?_)))))
   refine Ax rfl (fun hlt => ?_) (fun hlt => ?_)
   ·refine Ai (Ad (Ah (Az (Qm rfl (Qm rfl (Qx (oA rfl) rfl (Qx (B3 rfl underlying3 underlying106 rfl) rfl (Qx (EW (n := 1) rfl rfl rfl (by omega)) rfl (Qx (B3 rfl underlying106 underlying3 rfl) rfl (Qm rfl (An ?_)))))))))))
    rw [Gb i j (by omega)]
    refine Ac (Bb 9 CN (by kernel_rfl) rfl (Wm rfl (Wm rfl (Wm rfl (AM (Af (t) (hO.rd (.head _)) rfl underlying57 AR rfl rfl (by omega) (by omega)) rfl rfl (AM (oG rfl underlying81 AR (hO.get (.head _) (by omega))) rfl rfl (Wm rfl (Wm rfl (AM (Af ((i + j) / 2) (hO.rd (.head _)) rfl underlying57 AR rfl rfl (by omega) (by omega)) rfl rfl (AM (oG rfl underlying81 AR (hO.get (.head _) (by omega))) rfl rfl (AU (Qx (B0 rfl rfl call116 rfl (LY _ _ _ g hg _)) rfl (Qm rfl (Qm rfl (An ?_)))))))))))))))
    refine Bu rfl (fun hl => ?_) (fun hl => ?_)
    ·have hl : Ca d[t]! d[(i + j) / 2]! = false := by unfold Ca; simpa using hl
     refine Ab (Qm rfl (Qx (oA rfl) rfl (Qm rfl (Ak (Aj ?_)))))
     exact Am (j - ((i + j) / 2 + 1)) _ (by omega) ⟨(i + j) / 2 + 1, j, rfl, rfl, rfl, rfl, by omega, by omega, by omega, .inr (by rw [Nat.add_sub_cancel]; exact hl), c2⟩ Qs
    ·have hl : Ca d[t]! d[(i + j) / 2]! = true := by unfold Ca; simpa using hl
     refine Ab (Qm rfl (Qm rfl (Ak (Aj ?_))))
     exact Am ((i + j) / 2 - i) _ (by omega) ⟨i, (i + j) / 2, rfl, rfl, rfl, rfl, by omega, by omega, by omega, c1, .inr hl⟩ Qs
   ·obtain rfl : i = j := by omega
    refine Aw (Aa (Aa (Ag (Ad (Ac (Az (Qm rfl (Qm rfl (An (Ah ?_))))))))))
    refine AD (fun n s h' ms' => ∃ (k : Nat) (d0 : Array HT) (m : Hp), n = k - i ∧ s = [(0, v), (14, .int .i64 i), (17, .int .i64 k)] ∧ h = h' ∧ ms' = [m] ∧ i ≤ k ∧ k ≤ t ∧ OSD m v d0 ∧ ShR d d0 t k ∧ PermIn a (t + 1) d d0)
     (t - i) _ ⟨t, d, m, rfl, rfl, rfl, rfl, by omega, by omega, hO, ShR.start d t, permIn_refl d a (t + 1)⟩ Qs ?_
    rintro n s h' ms' ⟨k, d0, m0, rfl, rfl, rfl, rfl, hik, hkt, hO0, R, P⟩
    have hds := R.1
    refine Ac (Az (Qm rfl (Qm rfl (Qm rfl (An ?_)))))
    refine Ax rfl (fun hltk => ?_) (fun hltk => ?_)
    ·have st : ShR d (Go.Sort.swp d0 k (k - 1)) t (k - 1) := by
      obtain ⟨k', rfl⟩ : ∃ k', k = k' + 1 := ⟨k - 1, by omega⟩
      exact R.step (by omega) (by omega)
     have e : (k : Int) - 1 = ((k - 1 : Nat) : Int) := by omega
     refine Ai (Ad (Ac (Ah (CS 14 [false, false, true, true, true] CN (by kernel_rfl) (by kernel_rfl) (by kernel_rfl) (Dq rfl rfl rfl rfl (BM rfl rfl) (Dq rfl rfl rfl rfl (BM rfl rfl) (Dq rfl rfl rfl rfl (Ma rfl rfl rfl (by omega)) ?_)))))))
     refine ⟨rfl, ?_⟩
     simp only [DI, zap, List.cons_append, List.nil_append, List.take_succ_cons, List.take_zero, List.drop_succ_cons, List.drop_zero, List.take_nil, List.drop_nil]
     refine Wm rfl (Wm rfl (Dl rfl rfl rfl (Dl rfl rfl rfl (Dl rfl rfl rfl (Wm rfl (Wm rfl (AM (oS rfl) rfl rfl (AM (Af (k - 1) (hO0.rd (.head _)) rfl underlying57 AR rfl rfl (by omega) (by omega)) rfl rfl (AM (oG rfl underlying81 AR (hO0.get (.head _) (by omega))) rfl rfl (Wm rfl (Wm rfl (AM (Af (k) (hO0.rd (.head _)) rfl underlying57 AR rfl rfl (by omega) (by omega)) rfl rfl (AM (oG rfl underlying81 AR (hO0.get (.head _) (by omega))) rfl rfl (AU (Qx (Af (k) (hO0.rd (.head _)) rfl underlying57 AR rfl rfl (by omega) (by omega)) rfl (CP 0 _ hO0 rfl AR rfl rfl rfl (by omega) rfl rfl (fun mhO1 hzhO1 hO1 => Qx (Af (k - 1) (hO1.rd (.head _)) rfl underlying57 AR rfl rfl (by omega) (by omega)) rfl (CP 0 _ hO1 rfl AR rfl rfl rfl (by omega) rfl rfl (fun mhO2 hzhO2 hO2 => Ak (Gj (Aj (Ad (Ab (Qm rfl (Qx (oS rfl) rfl (Qm rfl (Ak ?_)))))))))))))))))))))))))))
     rw [e]
     exact Am (k - 1 - i) _ (by omega) ⟨k - 1, _, mhO2, rfl, rfl, rfl, rfl, by omega, by omega, hO2, st, permIn_trans _ _ _ _ _ P (swp_permIn d0 a (t + 1) k (k - 1) (by omega) (by omega) (by omega) (by omega) (by omega))⟩ Qs
    ·obtain rfl : k = i := by omega
     refine Aw (Aa (Aa (Ag (Ad (Aq (Ae ?_))))))
     exact Ek rfl (⟨rfl, m0, d0, rfl, hO0, P, K7 HC hA ⟨hi, hj⟩ c1 c2 R⟩)
  ·refine Ai (Ad (Az (Qm rfl (Qm rfl (Qx (oA rfl) rfl (Qx (B3 rfl underlying3 underlying106 rfl) rfl (Qx (EW (n := 1) rfl rfl rfl (by omega)) rfl (Qx (B3 rfl underlying106 underlying3 rfl) rfl (Qm rfl (An ?_))))))))))
   rw [Gb a b (by omega)]
   obtain ⟨mid, hmid⟩ : ∃ mid, mid = (a + b) / 2 := ⟨_, rfl⟩
   rw [← hmid]
   refine Az (Qm rfl (Qm rfl (Qx (oA rfl) rfl (Qm rfl (BG (Qm rfl (Qm rfl (An ?_))))))))
   refine AV (fun s h' ms' => ∃ (s0 r0 : Nat), s = [(0, v), (1, .int .i64 a), (2, .int .i64 t), (3, .int .i64 b), (4, (Oh g)), (18, .int .i64 mid), (19, .int .i64 ((mid : Int) + t)), (20, .int .i64 s0), (21, .int .i64 r0)] ∧ h = h' ∧ ms' = [m] ∧ ((mid < t ∧ s0 + b = mid + t ∧ r0 = mid) ∨ (t ≤ mid ∧ s0 = a ∧ r0 = t))) ?_ (fun s h ms hI => ?_)
   ·refine Ac (Ab (Qm rfl (Qm rfl (Qm rfl (An ?_)))))
    refine Ax rfl (fun hgt => ?_) (fun hgt => ?_)
    ·refine Ac (Ab (Qm rfl (Qm rfl (Qx (oS rfl) rfl (Qm rfl (GZ (Qm rfl (Qm rfl (Ak ?_)))))))))
     have e : (mid : Int) + t - b = ((mid + t - b : Nat) : Int) := by omega
     rw [e]
     exact Ay _ ⟨mid + t - b, mid, rfl, rfl, rfl, .inl ⟨by omega, by omega, rfl⟩⟩ Qs
    ·refine Ac (Ab (Qm rfl (Qm rfl (GZ (Qm rfl (Qm rfl (Ak ?_)))))))
     exact Ay _ ⟨a, t, rfl, rfl, rfl, .inr ⟨by omega, rfl, rfl⟩⟩ Qs
   ·obtain ⟨s0, r0, rfl, rfl, rfl, hc⟩ := hI
    refine Az (Qm rfl (Qx (oS rfl) rfl (Qm rfl (An (Ac (Ah ?_))))))
    refine AD (fun n s h' ms' => ∃ (i j : Nat), n = j - i ∧ s = [(0, v), (1, .int .i64 a), (2, .int .i64 t), (3, .int .i64 b), (4, (Oh g)), (18, .int .i64 mid), (19, .int .i64 ((mid : Int) + t)), (20, .int .i64 i), (21, .int .i64 j), (22, .int .i64 ((mid : Int) + t - 1))] ∧ h = h' ∧ ms' = [m] ∧ s0 ≤ i ∧ i ≤ j ∧ j ≤ r0 ∧ (i = s0 ∨ Ca d[mid + t - i]! d[i - 1]! = false) ∧ (j = r0 ∨ Ca d[mid + t - 1 - j]! d[j]! = true))
     (r0 - s0) _ ⟨s0, r0, rfl, rfl, rfl, rfl, by omega, by omega, by omega, .inl rfl, .inl rfl⟩ Qs ?_
    rintro n s h' ms' ⟨i, j, rfl, rfl, rfl, rfl, hi, hij, hj, c1, c2⟩
    refine Ac (Az (Qm rfl (Qm rfl (Qm rfl (An ?_)))))
    refine Ax rfl (fun hlt => ?_) (fun hlt => ?_)
    ·refine Ai (Ad (Ah (Az (Qm rfl (Qm rfl (Qx (oA rfl) rfl (Qx (B3 rfl underlying3 underlying106 rfl) rfl (Qx (EW (n := 1) rfl rfl rfl (by omega)) rfl (Qx (B3 rfl underlying106 underlying3 rfl) rfl (Qm rfl (An ?_)))))))))))
     rw [Gb i j (by omega)]
     refine Ac (Bb 11 CN (by kernel_rfl) rfl (Wm rfl (Wm rfl (Wm rfl (Wm rfl (AM (oS rfl) rfl rfl (AM (Af (mid + t - 1 - (i + j) / 2) (hO.rd (.head _)) rfl underlying57 AR rfl rfl (by omega) (by omega)) rfl rfl (AM (oG rfl underlying81 AR (hO.get (.head _) (by omega))) rfl rfl (Wm rfl (Wm rfl (AM (Af ((i + j) / 2) (hO.rd (.head _)) rfl underlying57 AR rfl rfl (by omega) (by omega)) rfl rfl (AM (oG rfl underlying81 AR (hO.get (.head _) (by omega))) rfl rfl (AU (Qx (B0 rfl rfl call116 rfl (LY _ _ _ g hg _)) rfl (Qm rfl (Qm rfl (An ?_)))))))))))))))))
     refine Bu rfl (fun hl => ?_) (fun hl => ?_)
     ·have hl : Ca d[mid + t - 1 - (i + j) / 2]! d[(i + j) / 2]! = false := by unfold Ca; simpa using hl
      refine Ab (Qm rfl (Qx (oA rfl) rfl (Qm rfl (Ak (Aj ?_)))))
      exact Am (j - ((i + j) / 2 + 1)) _ (by omega) ⟨(i + j) / 2 + 1, j, rfl, rfl, rfl, rfl, by omega, by omega, by omega, .inr (by rw [Nat.add_sub_cancel, show mid + t - ((i + j) / 2 + 1) = mid + t - 1 - (i + j) / 2 by omega]; exact hl), c2⟩ Qs
     ·have hl : Ca d[mid + t - 1 - (i + j) / 2]! d[(i + j) / 2]! = true := by unfold Ca; simpa using hl
      refine Ab (Qm rfl (Qm rfl (Ak (Aj ?_))))
      exact Am ((i + j) / 2 - i) _ (by omega) ⟨i, (i + j) / 2, rfl, rfl, rfl, rfl, by omega, by omega, by omega, c1, .inr hl⟩ Qs
    ·obtain rfl : i = j := by omega
     obtain ⟨e, he⟩ : ∃ e, e = mid + t - i := ⟨_, rfl⟩
     have he2 : (mid : Int) + t - i = (e : Int) := by omega
     refine Aw (Aa (Aa (Ag (Ad (Az (Qm rfl (Qm rfl (Qx (oS rfl) rfl (Qm rfl (An ?_))))))))))
     rw [he2]
     have k1 : i = a ∨ e = b ∨ Ca d[e]! d[i - 1]! = false := by
      rcases c1 with c | c
      ·rcases hc with hc | hc
       ·right; left; omega
       ·left; omega
      ·right; right; rw [he]; exact c
     have k2 : i = t ∨ e = t ∨ Ca d[e - 1]! d[i]! = true := by
      rcases c2 with c | c
      ·rcases hc with hc | hc
       ·right; left; omega
       ·left; omega
      ·right; right; rw [show e - 1 = mid + t - 1 - i by omega]; exact c
     have hgeo : a ≤ i ∧ i ≤ t ∧ i ≤ mid ∧ t ≤ e ∧ e ≤ b := by rcases hc with hc | hc <;> omega
     have hs2 : i + e = mid + t := by omega
     refine AV (fun s h' ms' => ∃ (d1 : Array HT) (m1 : Hp), s = [(0, v), (1, .int .i64 a), (3, .int .i64 b), (4, (Oh g)), (18, .int .i64 mid), (20, .int .i64 i), (24, .int .i64 e)] ∧ h = h' ∧ ms' = [m1] ∧ OSD m1 v d1 ∧ (∀ k, d1[k]! = EH d i t e k) ∧ PermIn a b d d1) ?_ (fun s h ms hI => ?_)
     ·refine Ac (Ab (Qm rfl (Qm rfl (Qm rfl (Qm rfl ?_)))))
      refine AQ (t := 181) rfl (fun q1 => ?_) (fun q1 => ?_)
      ·refine Qg (Au rfl rfl) rfl (Qg (Au rfl rfl) rfl (Qg (C0 rfl rfl rfl) rfl (Qm rfl (An ?_))))
       refine Ax rfl (fun q2 => ?_) (fun q2 => ?_)
       ·refine Ab (Qm rfl (Qm rfl (Qm rfl (Qm rfl (Qm rfl (Bg (pre := [m]) rfl call140 rfl (Ol d v (Oh g) m hO i t e a b (by omega) (by omega) (by omega) (by omega) (by omega) (by omega) (by omega) h rfl rfl rfl) rfl rfl rfl rfl (fun r h1 ms1 l1 hF => ?_)))))))
        obtain ⟨rfl, m1, d1, rfl, hO1, hr, P⟩ := hF
        refine Ak ?_
        exact Ay _ ⟨d1, m1, rfl, rfl, rfl, hO1, hr, P⟩ Qs
       ·refine Ai ?_
        exact Ay _ ⟨d, m, rfl, rfl, rfl, hO, fun k => (Gw (by omega) k).symm, permIn_refl d a b⟩ Qs
      ·refine Qk rfl (Qk rfl (Qk rfl (Qm rfl (An (AO rfl (Ai ?_))))))
       exact Ay _ ⟨d, m, rfl, rfl, rfl, hO, fun k => (Gw (by omega) k).symm, permIn_refl d a b⟩ Qs
     ·obtain ⟨d1, m1, rfl, rfl, rfl, hO1, hr, P⟩ := hI
      have C := Tc HC hA hB hgeo hs2 hr k1 k2
      have hd1 := P.1
      refine AV (fun s h' ms' => ∃ (d2 : Array HT) (m2 : Hp), s = [(0, v), (3, .int .i64 b), (4, (Oh g)), (18, .int .i64 mid), (24, .int .i64 e)] ∧ h = h' ∧ ms' = [m2] ∧ OSD m2 v d2 ∧ PermIn a mid d1 d2 ∧ SortedIn Ca a mid d2) ?_ (fun s h ms hI => ?_)
      ·refine Ac (Ab (Qm rfl (Qm rfl (Qm rfl (Qm rfl ?_)))))
       refine AQ (t := 195) rfl (fun q1 => ?_) (fun q1 => ?_)
       ·refine Qg (Au rfl rfl) rfl (Qg (Au rfl rfl) rfl (Qg (C0 rfl rfl rfl) rfl (Qm rfl (An ?_))))
        refine Ax rfl (fun q2 => ?_) (fun q2 => ?_)
        ·refine Ab (Qm rfl (Qm rfl (Qm rfl (Qm rfl (Qm rfl (Bg (pre := [m1]) rfl call137 rfl (ih d1 v m1 hO1 a i mid (by omega) (by omega) (by omega) (by omega) (by omega) C.lo C.lo2 h g hg rfl rfl rfl) rfl rfl rfl rfl (fun r h1 ms1 l1 hF => ?_)))))))
         obtain ⟨rfl, m2, d2, rfl, hO2, P2, S2⟩ := hF
         refine Ak ?_
         exact Ay _ ⟨d2, m2, rfl, rfl, rfl, hO2, P2, S2⟩ Qs
        ·obtain rfl : i = mid := by omega
         refine Ai ?_
         exact Ay _ ⟨d1, m1, rfl, rfl, rfl, hO1, permIn_refl d1 a _, C.lo⟩ Qs
       ·obtain rfl : i = a := by omega
        refine Qk rfl (Qk rfl (Qk rfl (Qm rfl (An (AO rfl (Ai ?_))))))
        exact Ay _ ⟨d1, m1, rfl, rfl, rfl, hO1, permIn_refl d1 _ _, C.lo2⟩ Qs
      ·obtain ⟨d2, m2, rfl, rfl, rfl, hO2, P2, S2⟩ := hI
       have hd2 := P2.1
       have f1 : SortedIn Ca mid e d2 := Bx C.hi fun k h1 h2 => P2.2.1 k (.inr h1)
       have f2 : SortedIn Ca e b d2 := Bx C.hi2 fun k h1 h2 => P2.2.1 k (.inr (by omega))
       have fin : ∀ d3, PermIn mid b d2 d3 → SortedIn Ca mid b d3 → PermIn a b d d3 ∧ SortedIn Ca a b d3 := fun d3 P3 S3 =>
        ⟨permIn_trans _ _ _ _ _ P (permIn_trans _ _ _ _ _ (permIn_mono d1 d2 a mid a b (by omega) (by omega) (by omega) P2) (permIn_mono d2 d3 mid b a b (by omega) (by omega) (by omega) P3)), Ob C (by omega) (by omega) P2 S2 P3 S3⟩
       refine Az (Qm rfl (Qm rfl (Qm rfl (Qm rfl ?_))))
       refine AQ (t := 209) rfl (fun q1 => ?_) (fun q1 => ?_)
       ·refine Qg (Au rfl rfl) rfl (Qg (Au rfl rfl) rfl (Qg (C0 rfl rfl rfl) rfl (Qm rfl (An ?_))))
        refine Ax rfl (fun q2 => ?_) (fun q2 => ?_)
        ·refine Ab (Qm rfl (Qm rfl (Qm rfl (Qm rfl (Qm rfl (Bg (pre := [m2]) rfl call137 rfl (ih d2 v m2 hO2 mid e b (by omega) (by omega) (by omega) (by omega) (by omega) f1 f2 h g hg rfl rfl rfl) rfl rfl rfl rfl (fun r h1 ms1 l1 hF => ?_)))))))
         obtain ⟨rfl, m3, d3, rfl, hO3, P3, S3⟩ := hF
         refine Ak ?_
         exact BL rfl (⟨rfl, m3, d3, rfl, hO3, (fin d3 P3 S3).1, (fin d3 P3 S3).2⟩)
        ·obtain rfl : e = b := by omega
         refine Ai ?_
         exact BL rfl (⟨rfl, m2, d2, rfl, hO2, (fin d2 (permIn_refl d2 _ _) f1).1, (fin d2 (permIn_refl d2 _ _) f1).2⟩)
       ·obtain rfl : e = mid := by omega
        refine Qk rfl (Qk rfl (Qk rfl (Qm rfl (An (AO rfl (Ai ?_))))))
        exact BL rfl (⟨rfl, m2, d2, rfl, hO2, (fin d2 (permIn_refl d2 _ _) f2).1, (fin d2 (permIn_refl d2 _ _) f2).2⟩)
def Ym (d : Array HT) (s n : Nat) : Prop := ∀ x, s ∣ x → SortedIn Ca x (min (x + s) n) d
theorem DW {d : Array HT} {a b b' : Nat} (h : SortedIn Ca a b d) (hb : b' ≤ b) : SortedIn Ca a b' d := fun i j h1 h2 h3 => h i j h1 h2 (by omega)
theorem Hx {d : Array HT} {a b : Nat} (hb : b ≤ a) : SortedIn Ca a b d := fun i j h1 h2 h3 => by omega
theorem Oo (d : Array HT) (v : Value) (m : Hp) (hO : OSD m v d) (hsz : d.size ≤ 1000000) (h : Hp) (g : Nat) (hg : Q1 h g) {n' : Int} (en : n' = d.size) :
  FnT Tryz.prog 130 #[v, .int .i64 n', (Oh g)] h [m] (fun _ h' ms' => h = h' ∧ ∃ m' d', ms' = [m'] ∧ OSD m' v d' ∧ PermIn 0 d.size d d' ∧ SortedIn Ca 0 d.size d') := by
 subst en
 obtain ⟨n, hn⟩ : ∃ n, n = d.size := ⟨_, rfl⟩
 rw [← hn]
 refine Av func130 ntmps130 rfl rfl (fun w0 hw0 => ?_)
 simp only [A5]
 refine Az (Qm rfl (BG (Qm rfl (Qm rfl (Qm rfl (An (Ac (Ah ?_))))))))
 refine AD (fun q s h' ms' => ∃ (a : Nat) (d0 : Array HT) (m : Hp), q = n - a ∧ s = [(0, v), (1, .int .i64 n), (2, (Oh g)), (6, .int .i64 20), (7, .int .i64 a), (8, .int .i64 ((a : Int) + 20))] ∧ h = h' ∧ ms' = [m] ∧ a ≤ n ∧ 20 ∣ a ∧ OSD m v d0 ∧ PermIn 0 n d d0 ∧ ∀ x, 20 ∣ x → x + 20 ≤ a → SortedIn Ca x (x + 20) d0)
  (n - 0) _ ⟨0, d, m, rfl, rfl, rfl, rfl, by omega, ⟨0, rfl⟩, hO, permIn_refl d 0 n, fun x _ h => by omega⟩ Qs ?_
 rintro q s h' ms' ⟨a, d0, m0, rfl, rfl, rfl, rfl, han, hda, hO0, P, hB⟩
 have hds := P.1
 refine Ac (Az (Qm rfl (Qm rfl (Qm rfl (An ?_)))))
 refine Ax rfl (fun hle => ?_) (fun hle => ?_)
 ·refine Ai (Ad (Ah (Az (Qm rfl (Qm rfl (Qm rfl (Qm rfl (Bg (pre := [m0]) rfl call136 rfl (NR d0 v m0 hO0 a (a + 20) (by omega) (by omega) (by omega) h g hg rfl (by omega)) rfl rfl rfl rfl (fun r h1 ms1 l1 hF => ?_)))))))))
  obtain ⟨rfl, m1, d1, rfl, hO1, P1, S1⟩ := hF
  refine BG (Qm rfl (Qm rfl (GZ (Qm rfl (Qm rfl (Qx (oA rfl) rfl (Qm rfl (Ak (Aj ?_)))))))))
  exact Am (n - (a + 20)) _ (by omega) ⟨a + 20, d1, m1, rfl, rfl, rfl, rfl, by omega, Nat.dvd_add hda ⟨1, rfl⟩, hO1, permIn_trans _ _ _ _ _ P (permIn_mono d0 d1 a (a + 20) 0 n (by omega) (by omega) (by omega) P1), fun x hx hx2 => by
   rcases Nat.lt_or_ge x a with h1 | h1
   ·have := D7 hx hda h1
    exact Bx (hB x hx this) fun k h2 h3 => P1.2.1 k (.inl (by omega))
   ·obtain rfl : x = a := by omega
    exact S1⟩ Qs
 ·refine Aw (Aa (Aa (Ag (Ad (Az (Qm rfl (Qm rfl (Qm rfl (Qm rfl (Bg (pre := [m0]) rfl call136 rfl (NR d0 v m0 hO0 a n (by omega) (by omega) (by omega) h g hg rfl rfl) rfl rfl rfl rfl (fun r h1 ms1 l1 hF => ?_)))))))))))
  obtain ⟨rfl, m1, d1, rfl, hO1, P1, S1⟩ := hF
  have PB : PermIn 0 n d d1 := permIn_trans _ _ _ _ _ P (permIn_mono d0 d1 a n 0 n (by omega) (by omega) (by omega) P1)
  have B1 : Ym d1 20 n := fun x hx => by
   rcases Nat.lt_trichotomy x a with h1 | rfl | h1
   ·have := D7 hx hda h1
    exact DW (Bx (hB x hx this) fun k h2 h3 => P1.2.1 k (.inl (by omega))) (by omega)
   ·exact DW S1 (by omega)
   ·have := D7 hda hx h1
    exact Hx (by omega)
  refine An (Ah ?_)
  refine AD (fun q s h' ms' => ∃ (w : Nat) (d0 : Array HT) (m : Hp), q = n - w ∧ s = [(0, v), (1, .int .i64 n), (2, (Oh g)), (6, .int .i64 w)] ∧ h = h' ∧ ms' = [m] ∧ 1 ≤ w ∧ w ≤ 4000000 ∧ OSD m v d0 ∧ PermIn 0 n d d0 ∧ Ym d0 w n)
   (n - 20) _ ⟨20, d1, m1, rfl, rfl, rfl, rfl, by omega, by omega, hO1, PB, B1⟩ Qs ?_
  rintro q s h' ms' ⟨w, d2, m2, rfl, rfl, rfl, rfl, hw1, hw2, hO2, P2, B2⟩
  have hd2 := P2.1
  refine Ac (Az (Qm rfl (Qm rfl (Qm rfl (An ?_)))))
  refine Ax rfl (fun hlt => ?_) (fun hlt => ?_)
  ·refine Ai (Ad (Ah (Az (Qm rfl (Qx (oM rfl) rfl (Qm rfl (Qm rfl (An (Ac (Ah ?_))))))))))
   refine AD (fun q s h' ms' => ∃ (a : Nat) (z : Int) (d0 : Array HT) (m : Hp), q = n - a ∧ s = [(0, v), (1, .int .i64 n), (2, (Oh g)), (6, .int .i64 w), (7, .int .i64 a), (8, .int .i64 z)] ∧ h = h' ∧ ms' = [m] ∧ z = a + 2 * w ∧ a ≤ n ∧ 2 * w ∣ a ∧ OSD m v d0 ∧ PermIn 0 n d d0 ∧ (∀ x, 2 * w ∣ x → x + 2 * w ≤ a → SortedIn Ca x (x + 2 * w) d0) ∧ ∀ x, w ∣ x → a ≤ x → SortedIn Ca x (min (x + w) n) d0)
    (n - 0) _ ⟨0, 2 * (w : Int), d2, m2, rfl, rfl, rfl, rfl, by omega, by omega, ⟨0, rfl⟩, hO2, P2, fun x _ h => by omega, fun x hx _ => B2 x hx⟩ Qs ?_
   rintro q s h' ms' ⟨a, z, d3, m3, rfl, rfl, rfl, rfl, rfl, han, hda, hO3, P3, hL, hR⟩
   have hd3 := P3.1
   have hwa : w ∣ a := Nat.dvd_trans ⟨2, Nat.mul_comm 2 w⟩ hda
   have hwa2 : w ∣ a + w := Nat.dvd_add hwa (Nat.dvd_refl w)
   have hwa3 : 2 * w ∣ a + 2 * w := Nat.dvd_add hda (Nat.dvd_refl _)
   have s1 := hR a hwa (Nat.le_refl _)
   have s2 := hR (a + w) hwa2 (by omega)
   refine Ac (Az (Qm rfl (Qm rfl (Qm rfl (An ?_)))))
   refine Ax rfl (fun hle2 => ?_) (fun hle2 => ?_)
   ·rw [show min (a + w) n = a + w by omega] at s1
    rw [show min (a + w + w) n = a + 2 * w by omega] at s2
    refine Ai (Ad (Ah (Az (Qm rfl (Qm rfl (Qm rfl (Qm rfl (Qx (oA rfl) rfl (Qm rfl (Qm rfl (Bg (pre := [m3]) rfl call137 rfl (Ii (2 * w) d3 v m3 hO3 a (a + w) (a + 2 * w) (by omega) (by omega) (by omega) (by omega) (by omega) s1 s2 h g hg rfl (by omega) (by omega)) rfl rfl rfl rfl (fun r h1 ms1 l1 hF => ?_))))))))))))
    obtain ⟨rfl, m4, d4, rfl, hO4, P4, S4⟩ := hF
    refine BG (Qm rfl (Qm rfl (GZ (Qm rfl (Qm rfl (Qx (oM rfl) rfl (Qx (oA rfl) rfl (Qm rfl (Ak (Aj ?_))))))))))
    exact Am (n - (a + 2 * w)) _ (by omega) ⟨a + 2 * w, (a : Int) + 2 * w + 2 * w, d4, m4, rfl, rfl, rfl, rfl, by omega, by omega, hwa3, hO4, permIn_trans _ _ _ _ _ P3 (permIn_mono d3 d4 a (a + 2 * w) 0 n (by omega) (by omega) (by omega) P4), fun x hx hx2 => by
     rcases Nat.lt_or_ge x a with h1 | h1
     ·have := D7 hx hda h1
      exact Bx (hL x hx this) fun k h2 h3 => P4.2.1 k (.inl (by omega))
     ·obtain rfl : x = a := by omega
      exact S4, fun x hx hx2 => Bx (hR x hx (by omega)) fun k h2 h3 => P4.2.1 k (.inr (by omega))⟩ Qs
   ·have fin : ∀ d4, PermIn a n d3 d4 → SortedIn Ca a n d4 → PermIn 0 n d d4 ∧ Ym d4 (w * 2) n := fun d4 P4 S4 => ⟨permIn_trans _ _ _ _ _ P3 (permIn_mono d3 d4 a n 0 n (by omega) (by omega) (by omega) P4), fun x hx => by
     rw [Nat.mul_comm] at hx ⊢
     rcases Nat.lt_trichotomy x a with h1 | rfl | h1
     ·have := D7 hx hda h1
      exact DW (Bx (hL x hx this) fun k h2 h3 => P4.2.1 k (.inl (by omega))) (by omega)
     ·exact DW S4 (by omega)
     ·have := D7 hda hx h1
      exact Hx (by omega)⟩
    refine Aw (Aa (Aa (Ag (Ad (Ac (Az (Qm rfl (Qm rfl (Qx (oA rfl) rfl (Qm rfl (BG (Qm rfl (Qm rfl (Qm rfl (An ?_)))))))))))))))
    refine Ax rfl (fun hm => ?_) (fun hm => ?_)
    ·rw [show min (a + w) n = a + w by omega] at s1
     rw [show min (a + w + w) n = n by omega] at s2
     refine Ab (Qm rfl (Qm rfl (Qm rfl (Qm rfl (Qm rfl (Bg (pre := [m3]) rfl call137 rfl (Ii (2 * w) d3 v m3 hO3 a (a + w) n (by omega) (by omega) (by omega) (by omega) (by omega) s1 s2 h g hg rfl (by omega) rfl) rfl rfl rfl rfl (fun r h1 ms1 l1 hF => ?_)))))))
     obtain ⟨rfl, m4, d4, rfl, hO4, P4, S4⟩ := hF
     have := fin d4 P4 S4
     refine GZ (Qm rfl (Qx (oM rfl) rfl (Qm rfl (Ak (Aj ?_)))))
     exact Am (n - w * 2) _ (by omega) ⟨w * 2, d4, m4, rfl, rfl, rfl, rfl, by omega, by omega, hO4, this.1, this.2⟩ Qs
    ·rw [show min (a + w) n = n by omega] at s1
     have := fin d3 (permIn_refl d3 a n) s1
     refine Ai (Ad (Ab (Qm rfl (Qx (oM rfl) rfl (Qm rfl (Ak (Aj ?_)))))))
     exact Am (n - w * 2) _ (by omega) ⟨w * 2, d3, m3, rfl, rfl, rfl, rfl, by omega, by omega, hO3, this.1, this.2⟩ Qs
  ·refine Aw (Aa (Aa (Ag ?_)))
   exact BL rfl (⟨rfl, m2, d2, rfl, hO2, P2, by have := B2 0 ⟨0, rfl⟩; rwa [show min (0 + w) n = n by omega] at this⟩)
theorem Ky (d : Array HT) (v : Value) (m : Hp) (hO : OSD m v d) (hsz : d.size ≤ 1000000) (h : Hp) (g : Nat) (hg : Q1 h g) :
  FnT Tryz.prog 115 #[v, (Oh g)] h [m] (fun _ h' ms' => h = h' ∧ ∃ m' d', ms' = [m'] ∧ OSD m' v d' ∧ PermIn 0 d.size d d' ∧ SortedIn Ca 0 d.size d') := by
 refine Av func115 ntmps115 rfl rfl (fun w0 hw0 => ?_)
 simp only [A5]
 refine Ab (Qm rfl (Qm rfl (Qx (AC (hO.rd (.head _)) rfl underlying57 rfl) rfl (Qm rfl (Bg (pre := [m]) rfl call130 rfl (Oo d v m hO hsz h g hg rfl) rfl rfl rfl rfl (fun r h1 ms1 l1 hF => ?_))))))
 obtain ⟨rfl, m4, d4, rfl, hO4, P4, S4⟩ := hF
 refine Ak ?_
 exact BL rfl (⟨rfl, m4, d4, rfl, hO4, P4, S4⟩)
theorem Ja {α : Type} [Inhabited α] {d d' : Array α} (P : PermIn 0 d.size d d') : d'.toList.Perm d.toList := by
 have h := P.2.2
 have e1 : d'.extract 0 d.size = d' := by rw [← P.1]; simp
 have e2 : d.extract 0 d.size = d := by simp
 rwa [e1, e2] at h
theorem GS {α : Type} [Inhabited α] {lt : α → α → Bool} {d : Array α} (S : SortedIn lt 0 d.size d) : d.toList.Pairwise fun a b => lt b a = false := by
 rw [List.pairwise_iff_getElem]
 intro i j hi hj hij
 have h1 := S i j (by omega) hij (by simpa using hj)
 have e : ∀ k (hk : k < d.toList.length), d[k]! = d.toList[k] := fun k hk => by
  have : k < d.size := by simpa using hk
  simp [this]
 rwa [e i hi, e j hj] at h1
theorem R5 (l : List CeO) (v : Value) (h : Hp) (hR : RdL KM 3 h [] v l) (hl : l.length ≤ 1000000) : FnT Tryz.prog 111 #[v] h [] (fun x h' ms' => h = h' ∧ ∃ m, ms' = [m] ∧ OwnL KM 3 59 m x l) := by
 refine Av func111 ntmps111 rfl rfl (fun w0 hw0 => ?_)
 simp only [A5]
 refine Az (Qm rfl (An (Ac (Az (Qm rfl (Qx (NK hR.rd.any rfl underlying27 rfl rfl) rfl (An ?_)))))))
 refine Bu rfl (fun hn => ?_) (fun hn => ?_)
 ·have h0 := K9 hR.rd hn
  obtain rfl : l = [] := List.eq_nil_of_length_eq_zero h0
  refine Az (Qm rfl (An (Aq (Ae (Is ?_)))))
  exact As rfl rfl (⟨rfl, _, rfl, OwnL.nil LU⟩)
 ·refine Ai (Ad (Az ?_))
  refine AE [] [] [] rfl underlying27 AH rfl (by omega) (by kernel_rfl) (by repeat (first | exact trivial | refine ⟨⟨by first | rfl | exact (hR.rd.any).cells | exact Rd.cells ‹_› | exact (RdL.rd ‹_›).cells, rfl, rfl⟩, ?_⟩)) rfl rfl rfl rfl (fun g5 => ?_)
  refine Qm rfl ?_
  have hO : OwnL KM 3 59 (Bf g5 59 []) (.slice (some ⟨g5, 0, none⟩) 0 0) [] := OwnL.blk (l := ([] : List CeO)) 0 LU rfl (by omega)
  refine AJ 0 hO hR.any rfl underlying27 AH rfl (by omega) rfl rfl rfl P7 (by simp; omega) (by simp; omega) rfl rfl rfl (fun v' m' hO' => ?_)
  refine Qm rfl (An (Aq ?_))
  exact As rfl rfl (⟨rfl, m', rfl, hO'⟩)
theorem Rh (l : List HT) (v : Value) (h : Hp) (hR : RdL cD 2 h [] v l) (hl : l.length ≤ 1000000) : FnT Tryz.prog 114 #[v] h [] (fun x h' ms' => h = h' ∧ ∃ m, ms' = [m] ∧ OwnL cD 2 81 m x l) := by
 refine Av func114 ntmps114 rfl rfl (fun w0 hw0 => ?_)
 simp only [A5]
 refine Az (Qm rfl (An (Ac (Az (Qm rfl (Qx (NK hR.rd.any rfl underlying57 rfl rfl) rfl (An ?_)))))))
 refine Bu rfl (fun hn => ?_) (fun hn => ?_)
 ·have h0 := K9 hR.rd hn
  obtain rfl : l = [] := List.eq_nil_of_length_eq_zero h0
  refine Az (Qm rfl (An (Aq (Ae (Is ?_)))))
  exact As rfl rfl (⟨rfl, _, rfl, OwnL.nil Cj⟩)
 ·refine Ai (Ad (Az ?_))
  refine AE [] [] [] rfl underlying57 AR rfl (by omega) (by kernel_rfl) (by repeat (first | exact trivial | refine ⟨⟨by first | rfl | exact (hR.rd.any).cells | exact Rd.cells ‹_› | exact (RdL.rd ‹_›).cells, rfl, rfl⟩, ?_⟩)) rfl rfl rfl rfl (fun g5 => ?_)
  refine Qm rfl ?_
  have hO : OwnL cD 2 81 (Bf g5 81 []) (.slice (some ⟨g5, 0, none⟩) 0 0) [] := OwnL.blk (l := ([] : List HT)) 0 Cj rfl (by omega)
  refine AJ 0 hO hR.any rfl underlying57 AR rfl (by omega) rfl rfl rfl Do (by simp; omega) (by simp; omega) rfl rfl rfl (fun v' m' hO' => ?_)
  refine Qm rfl (An (Aq ?_))
  exact As rfl rfl (⟨rfl, m', rfl, hO'⟩)
theorem OJ (l : List CeO) (v : Value) (h : Hp) (hR : RdL KM 3 h [] v l) (hl : l.length ≤ 1000000) : FnT Tryz.prog 93 #[v, Yv] h [] (fun x h' ms' => h.le h' ∧ ∃ m o, ms' = [m] ∧ OwnL KM 3 59 m x o ∧ o.Perm l ∧ o.Pairwise fun a b => a.c.id ≤ b.c.id) := by
 have o1 := hR.rd.one
 refine Av func93 ntmps93 rfl rfl (fun w0 hw0 => ?_)
 simp only [A5]
 refine Az ?_
 refine A8 [_] rfl rfl (by rfl) rfl rfl rfl (fun g3 => ?_)
 refine Qm rfl (An (AA fun h1 l1 hG => ?_))
 have hk : QX h1 g3 := fun ms => Seg.all hG 0 _ rfl ms
 have hR := hR.up l1
 refine Az (Qm rfl (Qc call111 rfl (R5 l v h1 hR hl) (fun r h2 ms2 l2 hF => ?_)))
 obtain ⟨rfl, m, rfl, hO⟩ := hF
 have ovr : r.oneCell' = true := (hO.rd (h := h1) (ms := [m]) (List.Mem.head _)).rd.one
 have hO' : OSC m r l.toArray := hO
 refine Qm rfl (BG (Qm rfl (Qx (Bv rfl rfl rfl) rfl ?_)))
 refine Bg (pre := [m]) rfl call112 rfl (JH l.toArray r m hO' (by simpa using hl) h1 g3 hk) rfl rfl rfl rfl (fun x h3 ms3 l3 hF => ?_)
 obtain ⟨rfl, m', d', rfl, hO2, P, S⟩ := hF
 have ov2 : r.oneCell' = true := (OwnL.rd hO2 (h := h1) (ms := [m']) (List.Mem.head _)).rd.one
 have hp : d'.toList.Perm l := Ja P
 have hs : d'.toList.Pairwise fun a b => a.c.id ≤ b.c.id := (GS (P.1 ▸ S)).imp fun {a b} h => by
  unfold Cf at h
  rw [decide_eq_false_iff_not, I7] at h
  omega
 refine BG (Qm rfl (Qm rfl (An (Aq ?_))))
 exact As rfl rfl (⟨l1, m', d'.toList, rfl, hO2, hp, hs⟩)
theorem OK (l : List HT) (v : Value) (h : Hp) (hR : RdL cD 2 h [] v l) (hl : l.length ≤ 1000000) : FnT Tryz.prog 95 #[v, Yq] h [] (fun x h' ms' => h.le h' ∧ ∃ m o, ms' = [m] ∧ OwnL cD 2 81 m x o ∧ o.Perm l ∧ o.Pairwise fun a b => a.1 ≤ b.1) := by
 have o1 := hR.rd.one
 refine Av func95 ntmps95 rfl rfl (fun w0 hw0 => ?_)
 simp only [A5]
 refine Az ?_
 refine A8 [_] rfl rfl (by rfl) rfl rfl rfl (fun g3 => ?_)
 refine Qm rfl (An (AA fun h1 l1 hG => ?_))
 have hk : Q1 h1 g3 := fun ms => Seg.all hG 0 _ rfl ms
 have hR := hR.up l1
 refine Az (Qm rfl (Qc call114 rfl (Rh l v h1 hR hl) (fun r h2 ms2 l2 hF => ?_)))
 obtain ⟨rfl, m, rfl, hO⟩ := hF
 have ovr : r.oneCell' = true := (hO.rd (h := h1) (ms := [m]) (List.Mem.head _)).rd.one
 have hO' : OSD m r l.toArray := hO
 refine Qm rfl (BG (Qm rfl (Qx (Bv rfl rfl rfl) rfl ?_)))
 refine Bg (pre := [m]) rfl call115 rfl (Ky l.toArray r m hO' (by simpa using hl) h1 g3 hk) rfl rfl rfl rfl (fun x h3 ms3 l3 hF => ?_)
 obtain ⟨rfl, m', d', rfl, hO2, P, S⟩ := hF
 have ov2 : r.oneCell' = true := (OwnL.rd hO2 (h := h1) (ms := [m']) (List.Mem.head _)).rd.one
 have hp : d'.toList.Perm l := Ja P
 have hs : d'.toList.Pairwise fun a b => a.1 ≤ b.1 := (GS (P.1 ▸ S)).imp fun {a b} h => by
  unfold Ca at h
  rw [decide_eq_false_iff_not, I7] at h
  omega
 refine BG (Qm rfl (Qm rfl (An (Aq ?_))))
 exact As rfl rfl (⟨l1, m', d'.toList, rfl, hO2, hp, hs⟩)
end Go.Proofs.YtodheebhahdepaaGreat

namespace Go.Proofs.YtodheebhahdepaaGreat
open Go.Proofs.Tryz
open Go.Eng Go.RowKit
def Cl.can (c : Cl) : Cl := ⟨c.id, c.dim, Cp c.sd⟩
def GN (x y : Cl) : Bool := decide (x.id ≤ y.id)
def ordF (l : List Cl) : List Cl := if h : l.length ≤ 1 then l.map Cl.can else
 List.merge (ordF (l.take (l.length / 2))) (ordF (l.drop (l.length / 2))) GN
termination_by l.length
decreasing_by
 ·rw [List.length_take]; omega
 ·rw [List.length_drop]; omega
theorem DN {l : List Cl} (h : l.length ≤ 1) : ordF l = l.map Cl.can := by
 rw [ordF, dif_pos h]
theorem Kh {l : List Cl} (h : ¬ l.length ≤ 1) : ordF l = List.merge (ordF (l.take (l.length / 2))) (ordF (l.drop (l.length / 2))) GN := by
 rw [ordF, dif_neg h]
theorem Eo : ∀ (n : Nat) (l : List Cl), l.length ≤ n → (ordF l).Perm (l.map Cl.can)
 | 0, l, h => by rw [DN (by omega)]
 | n + 1, l, h => by
  by_cases hs : l.length ≤ 1
  ·rw [DN hs]
  ·rw [Kh hs]
   have h1 := Eo n (l.take (l.length / 2)) (by rw [List.length_take]; omega)
   have h2 := Eo n (l.drop (l.length / 2)) (by rw [List.length_drop]; omega)
   refine (List.merge_perm_append GN).trans ((h1.append h2).trans ?_)
   rw [← List.map_append, List.take_append_drop]
theorem F2 (l : List Cl) : (ordF l).length = l.length := by
 have := (Eo l.length l (Nat.le_refl _)).length_eq
 rwa [List.length_map] at this
theorem Dv : ∀ (n : Nat) (l : List Cl), l.length ≤ n → (ordF l).Pairwise (fun x y => x.id ≤ y.id)
 | 0, l, h => by
  obtain rfl : l = [] := List.eq_nil_of_length_eq_zero (by omega)
  rw [DN (by simp)]; exact List.Pairwise.nil
 | n + 1, l, h => by
  by_cases hs : l.length ≤ 1
  ·rw [DN hs]
   match l, hs with
   | [], _ => exact List.Pairwise.nil
   | [a], _ => exact List.pairwise_singleton _ _
  ·rw [Kh hs]
   have h1 := Dv n (l.take (l.length / 2)) (by rw [List.length_take]; omega)
   have h2 := Dv n (l.drop (l.length / 2)) (by rw [List.length_drop]; omega)
   have := List.pairwise_merge (le := GN) (fun a b c hab hbc => by
    unfold GN at *
    have := of_decide_eq_true hab
    have := of_decide_eq_true hbc
    exact decide_eq_true (by omega)) (fun a b => by
    unfold GN
    by_cases h : a.id ≤ b.id
    ·simp [h]
    ·have : b.id ≤ a.id := by omega
     simp [this]) _ _ (h1.imp fun h => decide_eq_true h) (h2.imp fun h => decide_eq_true h)
   exact this.imp fun h => of_decide_eq_true h
theorem VS (a b : Cl) (l l' : List Cl) (h : b.id < a.id) : List.merge (a :: l) (b :: l') GN = b :: List.merge (a :: l) l' GN := by
 have : GN a b = false := decide_eq_false (by omega)
 simp [List.merge, this]
theorem Vi (a b : Cl) (l l' : List Cl) (h : ¬ b.id < a.id) : List.merge (a :: l) (b :: l') GN = a :: List.merge l (b :: l') GN := by
 have : GN a b = true := decide_eq_true (by omega)
 simp [List.merge, this]
theorem RdC.part {h : Hp} {v : Value} {l : List Ce} (R : RdC h v l) {i j : Nat} (hi : i ≤ j) (hj : j ≤ l.length) : RdC h (GJ 3 v i j) ((l.drop i).take (j - i)) := ⟨R.q.sub_ hi hj, fun a ha => R.s a (List.mem_of_mem_drop (List.mem_of_mem_take ha))⟩
theorem G3 : ∀ (N : Nat) (l : List Ce) (v : Value) (h : Hp), l.length < N → N ≤ 1000000 → (∀ a ∈ l, a.c.sd.length ≤ 100000) → RdC h v l → FnT Tryz.prog 63 #[v] h [] (fun r h' ms' => h.le h' ∧ ∃ m A, ms' = [m] ∧ OwnL cC 3 59 m r A ∧ A.map Ce.c = ordF (l.map Ce.c) ∧ ∀ a ∈ A, RdL cD 2 h' [] a.v a.c.sd) := by
 intro N
 induction N with
 | zero => intro l v h hN; omega
 | succ N ih =>
  intro l v h hN hM hs hR
  have o1 := hR.q.rd.one
  refine Av func63 ntmps63 rfl rfl (fun w0 hw0 => ?_)
  simp only [A5]
  refine Az (Qm rfl (An (Ac (Az (Qm rfl (Qx (AC hR.q.rd.any rfl underlying27 rfl) rfl (Qm rfl (An ?_))))))))
  refine Ax rfl (fun h0 => ?_) (fun h0 => ?_)
  ·obtain rfl : l = [] := List.eq_nil_of_length_eq_zero (by omega)
   refine Bz (Az (Qm rfl (An (Aq (Ae ?_)))))
   exact As rfl rfl (⟨Hp.le_refl _, Hp.emp, [], rfl, OwnL.nil BP, by rw [DN (by simp)]; rfl, fun a ha => nomatch ha⟩)
  ·refine Ai (Ad (Ac (Az (Qm rfl (Qx (AC hR.q.rd.any rfl underlying27 rfl) rfl (Qm rfl (An ?_)))))))
   refine Ax rfl (fun h1 => ?_) (fun h1 => ?_)
   ·match l, h0, h1, hs, hR with
    | [a], _, _, hs, hR =>
     have hsa := hR.s a (List.Mem.head _)
     have osa := hsa.rd.one
     have c0 : ∀ ms, Cell h ms ((AI v).add (0 * 3)) (.int .i64 a.c.id) := fun ms => (hR.q.any (ms := ms)).cell0 (j := 0) (by simp) rfl
     have c1 : ∀ ms, Cell h ms (((AI v).add (0 * 3)).add 1) (.int .i64 a.c.dim) := fun ms => (hR.q.any (ms := ms)).cell (j := 0) (by simp) (f := 1) rfl
     have c2 : ∀ ms, Cell h ms (((AI v).add (0 * 3)).add 2) a.v := fun ms => (hR.q.any (ms := ms)).cell (j := 0) (by simp) (f := 2) rfl
     have h01 : (0 : Nat) < [a].length := by simp
     refine Ac (B4 (n := 16) (bs := [true, true, true, true, true, true, true, true, true, true, true, true, false, false, false, false]) [true, true, true, true, true, true, true, true, true, true, true, true] CN (by kernel_rfl) (by kernel_rfl) rfl rfl (Qq rfl (Qp rfl (Af (0) hR.q.rd.any rfl underlying27 AH rfl rfl (by omega) (by omega)) (QF Bo rfl (QL rfl underlying3 (c0 _) (Qq rfl (Qp rfl (Af (0) hR.q.rd.any rfl underlying27 AH rfl rfl (by omega) (by omega)) (QF BC rfl (QL rfl underlying3 (c1 _) (Qq rfl (Qp rfl (Af (0) hR.q.rd.any rfl underlying27 AH rfl rfl (by omega) (by omega)) (QF Bl rfl (QL rfl underlying57 (c2 _) ?_)))))))))))))
     unfold GI
     simp only [List.cons_append, List.nil_append]
     refine Qo 12 rfl (Qc call41 rfl (NV a.c.sd a.v h (hs a (List.Mem.head _)) hsa) (fun rs h2 ms2 l2 hF => ?_))
     obtain ⟨rfl, mq, rfl, hOq⟩ := hF
     refine A7 hOq fun h3 l3 hRq => ?_
     obtain ⟨a9, c9, rfl, _⟩ := hRq.rd.ex
     refine Qa (F7 13 25 (by kernel_rfl) rfl (by assumption) rfl (A6 KE [.int .i64 0, .int .i64 0, .slice none 0 0] [(0, _), (1, _), (2, _)] [_, _, _] rfl AH rfl rfl Qt rfl) (Qo 14 rfl ?_))
     refine Ao [_, _, _] rfl underlying27 AH rfl (by rfl) rfl rfl (by omega) rfl rfl rfl (fun g26 => ?_)
     refine Qa (Qo 15 rfl (Qm rfl (Qa (Qe (Ad (Aq ?_))))))
     exact As rfl rfl ⟨l3, _, [⟨a.c.can, .slice a9 (Cp a.c.sd).length c9⟩], rfl, OwnL.blk (g := g26) (el := 59) (F := cC) (l := [⟨a.c.can, .slice a9 (Cp a.c.sd).length c9⟩]) 1 BP rfl (by decide), by rw [DN (by simp)]; rfl, fun b hb => by rw [List.mem_singleton.1 hb]; exact hRq⟩
   ·have hl2 : ¬ l.length ≤ 1 := by omega
    obtain ⟨k, hk⟩ : ∃ k, l.length / 2 = k := ⟨_, rfl⟩
    have hk1 : k < l.length := by omega
    have hk0 : 0 < k := by omega
    have hll := hR.q.len_le
    have hR1 : RdC h (GJ 3 v 0 k) (l.take k) := by have := hR.part (i := 0) (j := k) (by omega) (by omega); rwa [List.drop_zero, Nat.sub_zero] at this
    have hR2 : RdC h (GJ 3 v k l.length) (l.drop k) := by have := hR.part (i := k) (j := l.length) (by omega) (by omega); rwa [List.take_of_length_le (by rw [List.length_drop]; omega)] at this
    have hkt : Int.tdiv (l.length : Int) 2 = (k : Int) := by rw [Int.tdiv_eq_ediv_of_nonneg (by omega)]; omega
    refine Ai (Ad (Az (Qm rfl (Qm rfl (Qx (AC hR.q.rd.any rfl underlying27 rfl) rfl (Qx (H0 rfl rfl rfl (by omega) (by omega)) rfl (Qx (I9 (k) hR.q.rd.any rfl underlying27 AH rfl rfl (by omega) (by omega)) rfl ?_)))))))
    refine Qc call63 rfl (ih (l.take k) _ h (by rw [List.length_take]; omega) (by omega) (fun a ha => hs a (List.mem_of_mem_take ha)) hR1) (fun ra h2 ms2 l2 hF => ?_)
    obtain ⟨l2', ma, A, rfl, hOA, hA, hAs⟩ := hF
    refine A7 hOA fun h3 l3 hRA => ?_
    have hAs : ∀ a ∈ A, RdL cD 2 h3 [] a.v a.c.sd := fun a ha => (hAs a ha).up l3
    have hR2 := hR2.up (Hp.le_trans l2 l3)
    have hR := hR.up (Hp.le_trans l2 l3)
    have oA_ := hRA.rd.one
    refine Qm rfl (BG (Qm rfl (Qm rfl (Qx (AC hR.q.rd.any rfl underlying27 rfl) rfl (Qx (H0 rfl rfl rfl (by omega) (by omega)) rfl (Qx (Du (k) hR.q.rd.any rfl underlying27 AH rfl rfl (by omega) (by omega)) rfl ?_))))))
    refine Qc call63 rfl (ih (l.drop k) _ h3 (by rw [List.length_drop]; omega) (by omega) (fun a ha => hs a (List.mem_of_mem_drop ha)) hR2) (fun rb h4 ms4 l4 hF => ?_)
    obtain ⟨l4', mb, B, rfl, hOB, hB, hBs⟩ := hF
    refine A7 hOB fun h5 l5 hRB => ?_
    have l45 := Hp.le_trans l4 l5
    have hAs : ∀ a ∈ A, RdL cD 2 h5 [] a.v a.c.sd := fun a ha => (hAs a ha).up l45
    have hBs : ∀ a ∈ B, RdL cD 2 h5 [] a.v a.c.sd := fun a ha => (hBs a ha).up l5
    have hRA := hRA.up l45
    have oB := hRB.rd.one
    have lA : A.length = k := by have := congrArg List.length hA; rw [List.length_map, F2, List.length_map, List.length_take] at this; omega
    have lB : B.length = l.length - k := by have := congrArg List.length hB; rw [List.length_map, F2, List.length_map, List.length_drop] at this; exact this
    have hmg : ordF (l.map Ce.c) = List.merge (A.map Ce.c) (B.map Ce.c) GN := by
     rw [Kh (by rw [List.length_map]; exact hl2), hA, hB, List.length_map, hk, List.map_take, List.map_drop]
    refine Qm rfl (BG (Qm rfl (An ?_)))
    refine AV (fun s h' ms' => ∃ (A' B' O : List Ce) (va vb vo : Value) (mo : Hp), s = [(3, va), (4, vb), (5, vo)] ∧ h5 = h' ∧ ms' = [mo] ∧ A'.length + B'.length + O.length = l.length ∧ RdL cC 3 h5 [] va A' ∧ RdL cC 3 h5 [] vb B' ∧ OwnL cC 3 59 mo vo O ∧ O.map Ce.c ++ A'.map Ce.c ++ B'.map Ce.c = ordF (l.map Ce.c) ∧ (∀ a ∈ A', RdL cD 2 h5 [] a.v a.c.sd) ∧ (∀ a ∈ B', RdL cD 2 h5 [] a.v a.c.sd) ∧ ∀ a ∈ O, RdL cD 2 h5 [] a.v a.c.sd) ?_ (fun s h ms hI => ?_)
    ·refine Ah (Bz ?_)
     refine AD (fun q s h' ms' => ∃ (A' B' O : List Ce) (va vb vo : Value) (mo : Hp), q = A'.length + B'.length ∧ s = [(3, va), (4, vb), (5, vo)] ∧ h5 = h' ∧ ms' = [mo] ∧ A'.length + B'.length + O.length = l.length ∧ RdL cC 3 h5 [] va A' ∧ RdL cC 3 h5 [] vb B' ∧ OwnL cC 3 59 mo vo O ∧ O.map Ce.c ++ List.merge (A'.map Ce.c) (B'.map Ce.c) GN = ordF (l.map Ce.c) ∧ (∀ a ∈ A', RdL cD 2 h5 [] a.v a.c.sd) ∧ (∀ a ∈ B', RdL cD 2 h5 [] a.v a.c.sd) ∧ ∀ a ∈ O, RdL cD 2 h5 [] a.v a.c.sd)
      (A.length + B.length) _ ⟨A, B, [], _, _, _, Hp.emp, rfl, rfl, rfl, rfl, by rw [lA, lB, List.length_nil]; omega, hRA, hRB, OwnL.nil BP, by rw [hmg]; rfl, hAs, hBs, fun a ha => nomatch ha⟩ Qs ?_
     rintro q s h' ms' ⟨A', B', O, va, vb, vo, mo, rfl, rfl, rfl, rfl, hln, hRa, hRb, hOo, hm, hAa, hBb, hOa⟩
     have ova := hRa.rd.one
     have ovb := hRb.rd.one
     have ovo : vo.oneCell' = true := (hOo.rd (h := h5) (ms := [mo]) (List.Mem.head _)).rd.one
     refine Ac (Az (Qm rfl (Qx (AC hRa.rd.any rfl underlying27 rfl) rfl (Qm rfl (Qm rfl ?_)))))
     refine AQ (t := 42) rfl (fun hs1 => ?_) (fun hs1 => ?_)
     ·refine Qg (Au rfl rfl) rfl (Qg (AC hRb.rd.any rfl underlying27 rfl) rfl (Qg (BY rfl rfl rfl) rfl (Qm rfl (An ?_))))
      refine Ax rfl (fun hs2 => ?_) (fun hs2 => ?_)
      ·obtain ⟨a, A2, rfl⟩ := List.exists_cons_of_length_pos (l := A') (by omega)
       obtain ⟨b, B2, rfl⟩ := List.exists_cons_of_length_pos (l := B') (by omega)
       have hA0 : 0 < (a :: A2).length := by simp
       have hB0 : 0 < (b :: B2).length := by simp
       have oav := (hAa a (List.Mem.head _)).rd.one
       have obv := (hBb b (List.Mem.head _)).rd.one
       have ca : ∀ ms, Cell h5 ms ((AI va).add (0 * 3)) (.int .i64 a.c.id) := fun ms => (hRa.any (ms := ms)).cell0 (j := 0) hA0 rfl
       have cb : ∀ ms, Cell h5 ms ((AI vb).add (0 * 3)) (.int .i64 b.c.id) := fun ms => (hRb.any (ms := ms)).cell0 (j := 0) hB0 rfl
       have ga : ∀ ms, Seg h5 ms ((AI va).add (0 * 3)) (cC a) := fun ms => (hRa.any (ms := ms)).seg (j := 0) hA0
       have gb : ∀ ms, Seg h5 ms ((AI vb).add (0 * 3)) (cC b) := fun ms => (hRb.any (ms := ms)).seg (j := 0) hB0
       have hA2 : RdL cC 3 h5 [] (GJ 3 va 1 (a :: A2).length) A2 := by have := hRa.sub_ (i := 1) (j := (a :: A2).length) (by simp) (Nat.le_refl _); simpa using this
       have hB2 : RdL cC 3 h5 [] (GJ 3 vb 1 (b :: B2).length) B2 := by have := hRb.sub_ (i := 1) (j := (b :: B2).length) (by simp) (Nat.le_refl _); simpa using this
       have oA2 := hA2.rd.one
       have oB2 := hB2.rd.one
       have hal : (a :: A2).length = A2.length + 1 := rfl
       have hbl : (b :: B2).length = B2.length + 1 := rfl
       refine Ai (Ad (Ah (Ac (Bb 8 CN (by kernel_rfl) rfl (Wm rfl (AM (Af (0) hRb.rd.any rfl underlying27 AH rfl rfl (by omega) (by omega)) rfl rfl (Wf Bo rfl (Wl rfl underlying3 (cb _) (Wm rfl (AM (Af (0) hRa.rd.any rfl underlying27 AH rfl rfl (by omega) (by omega)) rfl rfl (Wf Bo rfl (Wl rfl underlying3 (ca _) (AU (Qm rfl (An ?_)))))))))))))))
       refine Ax rfl (fun hlt => ?_) (fun hlt => ?_)
       ·refine Ac (Ab (Qm rfl (Qm rfl (Qx (Af (0) hRb.rd.any rfl underlying27 AH rfl rfl (by omega) (by omega)) rfl (Qx (oG rfl underlying59 AH (gb _)) rfl ?_)))))
        refine Ao [_, _, _] rfl underlying27 AH rfl (by rfl) rfl rfl (by omega) rfl rfl rfl (fun g60 => ?_)
        refine Bh 1 hOo (RdL.one BP (x := b) (List.Mem.head _) rfl) rfl underlying27 AH rfl (by omega) rfl rfl rfl (Db (l := [b]) (fun y hy => by rw [List.mem_singleton.1 hy]; exact hBb b (List.Mem.head _))) (by (try simp only [List.length_singleton]); omega) (by (try simp only [List.length_singleton]); omega) rfl rfl rfl (fun v6 m6 hO6 => ?_)
        have ov6 : v6.oneCell' = true := (hO6.rd (h := h5) (ms := [m6]) (List.Mem.head _)).rd.one
        refine Qm rfl (GZ (Qm rfl (Qx (Du (1) hRb.rd.any rfl underlying27 AH rfl rfl (by omega) (by omega)) rfl (Qm rfl (Ak (Aj (AS ?_)))))))
        exact Am ((a :: A2).length + B2.length) _ (by omega) ⟨a :: A2, B2, O ++ [b], va, _, v6, m6, rfl, rfl, rfl, rfl, by rw [List.length_append, List.length_singleton]; omega, hRa, hB2, hO6, by rw [List.map_append, ← hm]; show _ ++ [b.c] ++ _ = _ ++ List.merge (a.c :: _) (b.c :: _) GN; rw [VS _ _ _ _ hlt, List.append_assoc]; rfl, hAa, fun y hy => hBb y (List.mem_cons_of_mem _ hy), fun y hy => by rcases List.mem_append.1 hy with h | h; exact hOa y h; rw [List.mem_singleton.1 h]; exact hBb b (List.Mem.head _)⟩ Qs
       ·refine Ac (Ab (Qm rfl (Qm rfl (Qx (Af (0) hRa.rd.any rfl underlying27 AH rfl rfl (by omega) (by omega)) rfl (Qx (oG rfl underlying59 AH (ga _)) rfl ?_)))))
        refine Ao [_, _, _] rfl underlying27 AH rfl (by rfl) rfl rfl (by omega) rfl rfl rfl (fun g68 => ?_)
        refine Bh 1 hOo (RdL.one BP (x := a) (List.Mem.head _) rfl) rfl underlying27 AH rfl (by omega) rfl rfl rfl (Db (l := [a]) (fun y hy => by rw [List.mem_singleton.1 hy]; exact hAa a (List.Mem.head _))) (by (try simp only [List.length_singleton]); omega) (by (try simp only [List.length_singleton]); omega) rfl rfl rfl (fun v6 m6 hO6 => ?_)
        have ov6 : v6.oneCell' = true := (hO6.rd (h := h5) (ms := [m6]) (List.Mem.head _)).rd.one
        refine Qm rfl (GZ (Qm rfl (Qx (Du (1) hRa.rd.any rfl underlying27 AH rfl rfl (by omega) (by omega)) rfl (Qm rfl (Ak (Aj (AS ?_)))))))
        exact Am (A2.length + (b :: B2).length) _ (by omega) ⟨A2, b :: B2, O ++ [a], _, vb, v6, m6, rfl, rfl, rfl, rfl, by rw [List.length_append, List.length_singleton]; omega, hA2, hRb, hO6, by rw [List.map_append, ← hm]; show _ ++ [a.c] ++ _ = _ ++ List.merge (a.c :: _) (b.c :: _) GN; rw [Vi _ _ _ _ hlt, List.append_assoc]; rfl, fun y hy => hAa y (List.mem_cons_of_mem _ hy), hBb, fun y hy => by rcases List.mem_append.1 hy with h | h; exact hOa y h; rw [List.mem_singleton.1 h]; exact hAa a (List.Mem.head _)⟩ Qs
      ·obtain rfl : B' = [] := List.eq_nil_of_length_eq_zero (by omega)
       refine Aw (Aa (Aa (Ag ?_)))
       exact Ay _ ⟨A', [], O, va, vb, vo, mo, rfl, rfl, rfl, hln, hRa, hRb, hOo, by rw [← hm, List.append_assoc]; simp, hAa, hBb, hOa⟩ Qs
     ·obtain rfl : A' = [] := List.eq_nil_of_length_eq_zero (by omega)
      refine Qk rfl (Qk rfl (Qk rfl (Qm rfl (An (AO rfl (Aw (Aa (Aa (Ag ?_)))))))))
      exact Ay _ ⟨[], B', O, va, vb, vo, mo, rfl, rfl, rfl, hln, hRa, hRb, hOo, by rw [← hm]; simp, hAa, hBb, hOa⟩ Qs
    ·obtain ⟨A', B', O, va, vb, vo, mo, rfl, rfl, rfl, hln, hRa, hRb, hOo, hm, hAa, hBb, hOa⟩ := hI
     have ova := hRa.rd.one
     have ovb := hRb.rd.one
     have ovo : vo.oneCell' = true := (hOo.rd (h := h5) (ms := [mo]) (List.Mem.head _)).rd.one
     refine Az (Qm rfl (Qm rfl ?_))
     refine Bh 0 hOo hRa.any rfl underlying27 AH rfl (by omega) rfl rfl rfl (Db hAa) (by (try simp only [List.length_append]); omega) (by (try simp only [List.length_append]); omega) rfl rfl rfl (fun v7 m7 hO7 => ?_)
     refine Qm rfl ?_
     refine Bh 0 hO7 hRb.any rfl underlying27 AH rfl (by omega) rfl rfl rfl (Db hBb) (by (try simp only [List.length_append]); omega) (by (try simp only [List.length_append]); omega) rfl rfl rfl (fun v8 m8 hO8 => ?_)
     refine Qm rfl (An (Aq ?_))
     exact As rfl rfl (⟨Hp.le_trans l2 (Hp.le_trans l3 l45), m8, _, rfl, hO8, by rw [List.map_append, List.map_append]; exact hm, fun y hy => by rcases List.mem_append.1 hy with h | h; rcases List.mem_append.1 h with h | h; exact hOa y h; exact hAa y h; exact hBb y h⟩)
structure CsOk (l : List Ce) : Prop where
 n : l.length ≤ 100000
 s : ∀ a ∈ l, a.c.sd.length ≤ 100000
theorem Ki (l : List Ce) (v : Value) (h : Hp) (hK : CsOk l) (hR : RdC h v l) : FnT Tryz.prog 45 #[.agg #[v]] h [] (fun r h' ms' => h.le h' ∧ ∃ m A v', ms' = [m] ∧ r = .agg #[v'] ∧ OwnL cC 3 59 m v' A ∧ A.map Ce.c = ordF (l.map Ce.c) ∧ ∀ a ∈ A, RdL cD 2 h' [] a.v a.c.sd) := by
 have o1 := hR.q.rd.one
 have hn := hK.n
 refine Av func45 ntmps45 rfl rfl (fun w0 hw0 => ?_)
 simp only [A5]
 refine Az ?_
 refine A8 [_] rfl rfl (by rfl) rfl rfl rfl (fun g1 => ?_)
 refine C4 [.slice none 0 0] rfl Bi rfl rfl (fun g2 => An (CZ 1 rfl fun h1 l1 hS => ?_))
 have hR := hR.up l1
 have hA0 := Seg.all hS 0 _ rfl
 refine Az (Qf BX rfl (Ql rfl underlying27 (hA0 _) (Qc call63 rfl (G3 (l.length + 1) l v h1 (by omega) (by omega) hK.s hR) (fun r2 h2 ms2 l2 hF => ?_))))
 obtain ⟨l2', m, A, rfl, hO, hA, hs⟩ := hF
 obtain ⟨a9, c9, rfl, _⟩ := (hO.rd (h := h2) (ms := [m]) (List.Mem.head _)).rd.ex
 refine Qx (A6 Po [.slice none 0 0] [(0, _)] [_] rfl Bi rfl rfl Qt rfl) rfl ?_
 refine Sa 1 [_] Bi rfl (by simp [Value.oneCell']) ?_
 refine An (Aq ?_)
 exact C7 (vs := [_]) 1 rfl rfl underlying29 rfl Bi rfl rfl (⟨Hp.le_trans l1 l2, m, A, _, rfl, rfl, hO, hA, hs⟩)
def uq : Option Int → List Cl → List Cl
 | _, [] => []
 | p, a :: l => if p = some a.id then uq (some a.id) l else a :: uq (some a.id) l
def MH : Option Int → List Ce → List Ce
 | _, [] => []
 | p, a :: l => if p = some a.c.id then MH (some a.c.id) l else a :: MH (some a.c.id) l
theorem Md : ∀ (l : List Ce) (p : Option Int), (MH p l).map Ce.c = uq p (l.map Ce.c)
 | [], _ => rfl
 | a :: l, p => by
  unfold MH
  show _ = (if p = some a.c.id then uq (some a.c.id) (l.map Ce.c) else a.c :: uq (some a.c.id) (l.map Ce.c))
  split
  ·exact Md l _
  ·rw [List.map_cons, Md l _]
theorem Mq : ∀ (l : List Ce) (p : Option Int), ∀ a ∈ MH p l, a ∈ l
 | [], _, a, h => by cases h
 | b :: l, p, a, h => by
  unfold MH at h
  split at h
  ·exact List.mem_cons_of_mem _ (Mq l _ a h)
  ·rcases List.mem_cons.1 h with rfl | h
   ·exact List.Mem.head _
   ·exact List.mem_cons_of_mem _ (Mq l _ a h)
theorem VN (l : List Ce) (p : Option Int) : (MH p l).length ≤ l.length := by
 induction l generalizing p with
 | nil => exact Nat.le_refl _
 | cons a l ih =>
  unfold MH
  have := ih (some a.c.id)
  split
  ·rw [List.length_cons]; omega
  ·rw [List.length_cons, List.length_cons]; omega
theorem Ny : ∀ (l : List Ce) (p : Option Int) (a : Ce), MH p (l ++ [a]) = MH p l ++ (if ((l.getLast?.map fun x => x.c.id).or p) = some a.c.id then [] else [a])
 | [], p, a => by
  show MH p [a] = _
  unfold MH
  show _ = [] ++ (if p = some a.c.id then [] else [a])
  split <;> rfl
 | b :: l, p, a => by
  have ih := Ny l (some b.c.id) a
  have e : (((b :: l).getLast?.map fun x : Ce => x.c.id).or p) = ((l.getLast?.map fun x => x.c.id).or (some b.c.id)) := by
   cases l with
   | nil => rfl
   | cons c l => simp [List.getLast?_cons_cons, List.getLast?_cons]
  rw [e]
  show MH p (b :: (l ++ [a])) = _
  unfold MH
  split
  ·exact ih
  ·rw [ih]; rfl
theorem SC {l : List Ce} {i : Nat} (hi : i < l.length) : MH none (l.take (i + 1)) = MH none (l.take i) ++ (if h : 0 < i ∧ (l[i - 1]'(by omega)).c.id = l[i].c.id then [] else [l[i]]) := by
 rw [List.take_succ_eq_append_getElem hi, Ny]
 congr 1
 by_cases h0 : 0 < i
 ·have e : (l.take i).getLast? = some (l[i - 1]'(by omega)) := by
   rw [List.getLast?_eq_getElem?, List.length_take, Nat.min_eq_left (by omega), List.getElem?_take_of_lt (by omega), List.getElem?_eq_getElem (by omega)]
  rw [e]
  by_cases h1 : (l[i - 1]'(by omega)).c.id = l[i].c.id
  ·rw [dif_pos ⟨h0, h1⟩, if_pos (by simp [h1])]
  ·rw [dif_neg (fun q => h1 q.2), if_neg (by simpa using h1)]
 ·obtain rfl : i = 0 := by omega
  rw [dif_neg (fun q => h0 q.1)]
  simp
def DT (l : List Cl) : List Cl := uq none (ordF l)
theorem JQ (l : List Ce) (v : Value) (h : Hp) (hK : CsOk l) (hR : RdC h v l) : FnT Tryz.prog 43 #[.agg #[v]] h [] (fun r h' ms' => h.le h' ∧ ∃ m A, ms' = [m] ∧ OwnL cC 3 59 m r A ∧ A.map Ce.c = DT (l.map Ce.c) ∧ ∀ a ∈ A, RdL cD 2 h' [] a.v a.c.sd) := by
 have o1 := hR.q.rd.one
 have hn := hK.n
 refine Av func43 ntmps43 rfl rfl (fun w0 hw0 => ?_)
 simp only [A5]
 refine Az ?_
 refine A8 [_] rfl rfl (by rfl) rfl rfl rfl (fun g1 => ?_)
 refine Qm rfl (An (AA fun h1 l1 hS => ?_))
 have hR := hR.up l1
 have hA0 := Seg.all hS 0 _ rfl
 refine Az (Qf BX rfl (Ql rfl underlying27 (hA0 _) (Qc call63 rfl (G3 (l.length + 1) l v h1 (by omega) (by omega) hK.s hR) (fun r2 h2 ms2 l2 hF => ?_))))
 obtain ⟨l2', m, A, rfl, hO, hA, hs⟩ := hF
 refine A7 hO fun h3 l3 hRA => ?_
 have hs : ∀ a ∈ A, RdL cD 2 h3 [] a.v a.c.sd := fun a ha => (hs a ha).up l3
 have lA : A.length = l.length := by have := congrArg List.length hA; rwa [List.length_map, F2, List.length_map] at this
 have o2 := hRA.rd.one
 refine Qm rfl (BG (Qm rfl (An (Ac (Az (Qm rfl (An (Ah (Bz ?_)))))))))
 refine AD (fun q s h' ms' => ∃ (i : Nat) (vo : Value) (mo : Hp), q = A.length - i ∧ s = [(3, r2), (4, vo), (5, .int .i64 i)] ∧ h3 = h' ∧ ms' = [mo] ∧ i ≤ A.length ∧ OwnL cC 3 59 mo vo (MH none (A.take i)))
  (A.length - 0) _ ⟨0, _, Hp.emp, rfl, rfl, rfl, rfl, by omega, OwnL.nil BP⟩ Qs ?_
 rintro q s h' ms' ⟨i, vo, mo, rfl, rfl, rfl, rfl, hi, hO⟩
 refine Ac (Az (Qm rfl (Qm rfl (Qx (AC hRA.rd.any rfl underlying27 rfl) rfl (Qm rfl (An ?_))))))
 refine Ax rfl (fun hlt => ?_) (fun hlt => ?_)
 ·have hil : i < A.length := Ci hlt
  have ovo : vo.oneCell' = true := (hO.rd (h := h3) (ms := [mo]) (List.Mem.head _)).rd.one
  have oav := (hs _ (List.getElem_mem hil)).rd.one
  have hgi : ∀ ms, Seg h3 ms ((AI r2).add (i * 3)) (cC A[i]) := fun ms => (hRA.any (ms := ms)).seg hil
  have hci : ∀ ms, Cell h3 ms ((AI r2).add (i * 3)) (.int .i64 A[i].c.id) := fun ms => (hRA.any (ms := ms)).cell0 hil rfl
  have htk := SC hil
  have hul : (MH none (A.take i)).length ≤ 100000 := by have := VN (A.take i) none; rw [List.length_take] at this; omega
  refine Ai (Ad ?_)
  refine AV (fun s h' ms' => ∃ (vo : Value) (mo : Hp), s = [(3, r2), (4, vo), (5, .int .i64 i)] ∧ h3 = h' ∧ ms' = [mo] ∧ OwnL cC 3 59 mo vo (MH none (A.take (i + 1)))) ?_ (fun s h ms hI => ?_)
  ·refine Ah (Ac (Bb 14 CN (by kernel_rfl) rfl (Wm rfl (Wm rfl (Wm rfl ?_)))))
   refine BV (t := 17) rfl (fun hs1 => ?_) (fun hs1 => ?_)
   ·rw [dif_neg (fun q => by omega)] at htk
    refine Ap rfl rfl rfl rfl rfl (Ap rfl rfl rfl rfl rfl (Ap rfl rfl rfl rfl rfl (Ap rfl rfl rfl rfl rfl (Ap rfl rfl rfl rfl rfl (Ap rfl rfl rfl rfl rfl (Ap rfl rfl rfl rfl rfl (Ap rfl rfl rfl rfl rfl (Ap rfl rfl rfl rfl rfl (Ap rfl rfl rfl rfl rfl (Ap rfl rfl rfl rfl rfl (AU (Qk rfl (Qm rfl (An (Bk rfl (Ab (Qm rfl (Qm rfl (Qm rfl (Qx (Af (i) hRA.rd.any rfl underlying27 AH rfl rfl (by omega) (by omega)) rfl (Qx (oG rfl underlying59 AH (hgi _)) rfl ?_)))))))))))))))))))))
    refine Ao [_, _, _] rfl underlying27 AH rfl (by rfl) rfl rfl (by omega) rfl rfl rfl (fun g36 => ?_)
    refine Bh 1 hO (RdL.one BP (x := A[i]) (List.Mem.head _) rfl) rfl underlying27 AH rfl (by omega) rfl rfl rfl (Db (l := [A[i]]) (fun y hy => by rw [List.mem_singleton.1 hy]; exact hs _ (List.getElem_mem hil))) (by (try simp only [List.length_singleton]); omega) (by (try simp only [List.length_singleton]); omega) rfl rfl rfl (fun v6 m6 hO6 => ?_)
    rw [← htk] at hO6
    refine Qm rfl (Ak (Aj (AS ?_)))
    exact Ay _ ⟨v6, m6, rfl, rfl, rfl, hO6⟩ Qs
   ·have hip : i - 1 < A.length := by omega
    have hcp : ∀ ms, Cell h3 ms ((AI r2).add ((i - 1) * 3)) (.int .i64 A[i - 1].c.id) := fun ms => (hRA.any (ms := ms)).cell0 hip rfl
    refine AF (Au rfl rfl) rfl rfl rfl rfl (AF (Au rfl rfl) rfl rfl rfl rfl (AF (Af (i) hRA.rd.any rfl underlying27 AH rfl rfl (by omega) (by omega)) rfl rfl rfl rfl (AF (oF Bo rfl) rfl rfl rfl rfl (AF (oL rfl underlying3 (hci _)) rfl rfl rfl rfl (AF (Au rfl rfl) rfl rfl rfl rfl (AF (Au rfl rfl) rfl rfl rfl rfl (AF (oS rfl) rfl rfl rfl rfl (AF (Af (i - 1) hRA.rd.any rfl underlying27 AH rfl rfl (by omega) (by omega)) rfl rfl rfl rfl (AF (oF Bo rfl) rfl rfl rfl rfl (AF (oL rfl underlying3 (hcp _)) rfl rfl rfl rfl (AU (Qg (DP rfl rfl rfl) rfl (Qm rfl (An ?_))))))))))))))
    refine Ax rfl (fun hs2 => ?_) (fun hs2 => ?_)
    ·rw [dif_neg (fun q => hs2 q.2.symm)] at htk
     refine Ab (Qm rfl (Qm rfl (Qm rfl (Qx (Af (i) hRA.rd.any rfl underlying27 AH rfl rfl (by omega) (by omega)) rfl (Qx (oG rfl underlying59 AH (hgi _)) rfl ?_)))))
     refine Ao [_, _, _] rfl underlying27 AH rfl (by rfl) rfl rfl (by omega) rfl rfl rfl (fun g36 => ?_)
     refine Bh 1 hO (RdL.one BP (x := A[i]) (List.Mem.head _) rfl) rfl underlying27 AH rfl (by omega) rfl rfl rfl (Db (l := [A[i]]) (fun y hy => by rw [List.mem_singleton.1 hy]; exact hs _ (List.getElem_mem hil))) (by (try simp only [List.length_singleton]); omega) (by (try simp only [List.length_singleton]); omega) rfl rfl rfl (fun v6 m6 hO6 => ?_)
     rw [← htk] at hO6
     refine Qm rfl (Ak (Aj (AS ?_)))
     exact Ay _ ⟨v6, m6, rfl, rfl, rfl, hO6⟩ Qs
    ·rw [dif_pos ⟨by omega, by omega⟩, List.append_nil] at htk
     rw [← htk] at hO
     refine Ai (Aj ?_)
     exact Ay _ ⟨vo, mo, rfl, rfl, rfl, hO⟩ Qs
  ·obtain ⟨vo, mo, rfl, rfl, rfl, hO⟩ := hI
   refine Ab (Qm rfl (Qx (oA rfl) rfl (Qm rfl (Ak ?_))))
   exact Am (A.length - (i + 1)) _ (by omega) ⟨i + 1, vo, mo, rfl, rfl, rfl, rfl, by omega, hO⟩ Qs
 ·have hie : i = A.length := by omega
  rw [hie, List.take_length] at hO
  refine Aw (Aa (Aa (Ag (Ad (Az (Qm rfl (Qm rfl (An (Aq ?_)))))))))
  exact As rfl rfl (⟨Hp.le_trans l1 (Hp.le_trans l2 l3), mo, _, rfl, hO, by rw [Md, hA]; rfl, fun a ha => hs a (Mq _ _ a ha)⟩)
def JX (l : List Cl) (x : Int) : Nat := (l.takeWhile fun c => decide (c.id < x)).length
def Im (l : List Cl) (x : Int) : Int := if h : JX l x < l.length then if l[JX l x].id = x then (JX l x : Nat) else -1 else -1
theorem M1 {l : List Cl} {x : Int} {k : Nat} (hk : k ≤ l.length) (h1 : ∀ j (hj : j < l.length), j < k → l[j].id < x) (h2 : ∀ hk : k < l.length, ¬ l[k].id < x) : JX l x = k := by
 obtain ⟨e1, _⟩ := DK (fun c : Cl => decide (c.id < x)) l k hk (fun j hj hjk => decide_eq_true (h1 j hj hjk)) (fun hk => decide_eq_false (h2 hk))
 unfold JX
 rw [e1, List.length_take]; omega
theorem UF (l : List Ce) (v : Value) (x : Int) (h : Hp) (hn : l.length ≤ 100000) (hst : (l.map Ce.c).Pairwise fun a b => a.id ≤ b.id) (hR : RdL cC 3 h [] v l) (ms : List Hp) : FnV Tryz.prog 44 #[v, .int .i64 x] h ms (.int .i64 (Im (l.map Ce.c) x)) := by
 refine IV ?_ ms
 have o1 := hR.rd.one
 have hsr : ∀ i j (hi : i < l.length) (hj : j < l.length), i < j → l[i].c.id ≤ l[j].c.id := fun i j hi hj hij => by
  have := List.pairwise_iff_getElem.1 hst i j (by simpa using hi) (by simpa using hj) hij
  simpa using this
 refine Av func44 ntmps44 rfl rfl (fun w0 hw0 => ?_)
 simp only [A5]
 refine Az (Qm rfl (BG (Qm rfl (BG (Qm rfl (Qx (AC hR.rd.any rfl underlying27 rfl) rfl (Qm rfl (An (Ac (Ah ?_))))))))))
 refine AD (fun q s h' ms' => ∃ (lo hi : Nat), q = hi - lo ∧ s = [(0, v), (1, .int .i64 x), (5, .int .i64 lo), (6, .int .i64 hi)] ∧ h = h' ∧ ms' = [] ∧ lo ≤ hi ∧ hi ≤ l.length ∧ (∀ j (hj : j < l.length), j < lo → l[j].c.id < x) ∧ ∀ j (hj : j < l.length), hi ≤ j → ¬ l[j].c.id < x)
  (l.length - 0) _ ⟨0, l.length, rfl, rfl, rfl, rfl, by omega, by omega, fun j hj h => by omega, fun j hj h => by omega⟩ Qs ?_
 rintro q s h' ms' ⟨lo, hi, rfl, rfl, rfl, rfl, hlh, hhl, hlo, hhi⟩
 refine Ac (Az (Qm rfl (Qm rfl (Qm rfl (An ?_)))))
 refine Ax rfl (fun hlt => ?_) (fun hlt => ?_)
 ·obtain ⟨m, hm⟩ : ∃ m, (lo + hi) / 2 = m := ⟨_, rfl⟩
  have hml : m < l.length := by omega
  have hmt : ((lo : Int) + hi) / 2 = (m : Int) := by omega
  have hcm : Cell h [] ((AI v).add (m * 3)) (.int .i64 l[m].c.id) := hR.cell0 hml rfl
  refine Ai (Ad (Ah (Az (Qm rfl (Qm rfl (Qx (oA rfl) rfl (Qx (H0 rfl rfl rfl (by omega) (by omega)) rfl (Qm rfl (An ?_)))))))))
  rw [hmt]
  refine Az (Qm rfl (Qm rfl (Qx (Af (m) hR.rd.any rfl underlying27 AH rfl rfl (by omega) (by omega)) rfl (Qf Bo rfl (Ql rfl underlying3 (hcm) (Qm rfl (Qm rfl (An ?_))))))))
  refine Ax rfl (fun hlt2 => ?_) (fun hlt2 => ?_)
  ·refine Ab (Qm rfl (Qx (oA rfl) rfl (Qm rfl (Ak (Aj ?_)))))
   exact Am (hi - (m + 1)) _ (by omega) ⟨m + 1, hi, rfl, rfl, rfl, rfl, by omega, by omega, fun j hj h => by
    rcases (by omega : j < m ∨ j = m) with h1 | rfl
    ·have := hsr j m hj hml h1; omega
    ·exact hlt2, hhi⟩ Qs
  ·refine Ab (Qm rfl (Qm rfl (Ak (Aj ?_))))
   exact Am (m - lo) _ (by omega) ⟨lo, m, rfl, rfl, rfl, rfl, by omega, by omega, hlo, fun j hj h => by
    rcases (by omega : m < j ∨ j = m) with h1 | rfl
    ·have := hsr m j hml hj h1; omega
    ·exact hlt2⟩ Qs
 ·obtain rfl : lo = hi := by omega
  have hcnt : JX (l.map Ce.c) x = lo := M1 (by rw [List.length_map]; omega) (fun j hj h => by rw [List.getElem_map]; exact hlo j (by simpa using hj) h) (fun hk => by rw [List.getElem_map]; exact hhi lo (by simpa using hk) (Nat.le_refl _))
  have hat : Im (l.map Ce.c) x = if h : lo < l.length then (if l[lo].c.id = x then (lo : Int) else -1) else -1 := by
   unfold Im
   simp only [hcnt, List.length_map, List.getElem_map]
  refine Aw (Aa (Aa (Ag (Ad (Ac (Az (Qm rfl (Qm rfl (Qx (AC hR.rd.any rfl underlying27 rfl) rfl (Qm rfl (Qm rfl ?_)))))))))))
  refine AQ (t := 31) rfl (fun hs1 => ?_) (fun hs1 => ?_)
  ·have hll : lo < l.length := Ci hs1
   have hcl : Cell h [] ((AI v).add (lo * 3)) (.int .i64 l[lo].c.id) := hR.cell0 hll rfl
   rw [dif_pos hll] at hat
   refine Qg (Au rfl rfl) rfl (Qg (Au rfl rfl) rfl (Qg (Af (lo) hR.rd.any rfl underlying27 AH rfl rfl (by omega) (by omega)) rfl (Qg (oF Bo rfl) rfl (Qg (oL rfl underlying3 (hcl)) rfl (Qg (Au rfl rfl) rfl (Qg (DD rfl rfl rfl) rfl (Qm rfl (An ?_))))))))
   refine Ax rfl (fun hs2 => ?_) (fun hs2 => ?_)
   ·refine Ac (Ab (Qm rfl (Qm rfl (An (Aq (Ae ?_))))))
    exact As rfl rfl (by rw [hat, if_pos hs2])
   ·refine Ai (Ad (Az (Qm rfl (An (Aq ?_)))))
    exact As rfl rfl (by rw [hat, if_neg hs2])
  ·rw [dif_neg (by omega)] at hat
   refine Qk rfl (Qk rfl (Qk rfl (Qk rfl (Qk rfl (Qk rfl (Qk rfl (Qm rfl (An (AO rfl (Ai (Ad (Az (Qm rfl (An (Aq ?_)))))))))))))))
   exact As rfl rfl (by rw [hat])
def Bc (x : Cl) (i : Nat) : Int × Int := x.sd.getD i (0, 0)
theorem A4 {x : Cl} {i : Nat} (hi : i < x.sd.length) : Bc x i = x.sd[i] := by simp [Bc, List.getD, hi]
def B6 (l : List Cl) (x : Cl) (i : Nat) : Prop := Im l (Bc x i).1 < 0 ∨ (l.getD (Im l (Bc x i).1).toNat default).dim ≠ x.dim - 1 ∨ (0 < i ∧ (Bc x i).1 = (Bc x (i - 1)).1)
instance (l : List Cl) (x : Cl) (i : Nat) : Decidable (B6 l x i) := by unfold B6; infer_instance
def BD (x : Cl) : Prop := (x.dim = 0 ∧ 0 < x.sd.length) ∨ (x.dim = 1 ∧ x.sd.length ≠ 2) ∨ (1 < x.dim ∧ (x.sd.length < 2 ∨ 64 < x.sd.length))
instance (x : Cl) : Decidable (BD x) := by unfold BD; infer_instance
def Bw (x : Cl) (i : Nat) : Prop := (Bc x i).2 ≠ 1 ∧ (Bc x i).2 ≠ -1
instance (x : Cl) (i : Nat) : Decidable (Bw x i) := by unfold Bw; infer_instance
def BR (l : List Cl) (x : Cl) : Int :=
 if x.dim < 0 ∨ 8 < x.dim then 21
 else if BD x then 22
 else if ¬ ∀ i, i < x.sd.length → ¬ B6 l x i then 22
 else if ¬ ∀ i, i < x.sd.length → ¬ Bw x i then 23
 else if x.dim = 1 ∧ (Bc x 0).2 = (Bc x 1).2 then 23 else 0
theorem JF (l : List Cl) (x : Int) : Im l x < l.length := by
 unfold Im
 split
 ·split
  ·omega
  ·omega
 ·omega
theorem Vy (l : List Ce) (x : Ce) (v : Value) (h : Hp) (hn : l.length ≤ 100000) (hxn : x.c.sd.length ≤ 100000) (hxd : -9223372036854775807 ≤ x.c.dim ∧ x.c.dim ≤ 9223372036854775807) (hst : (l.map Ce.c).Pairwise fun a b => a.id ≤ b.id) (hR : RdL cC 3 h [] v l) (hX : RdL cD 2 h [] x.v x.c.sd) (ms : List Hp) : FnV Tryz.prog 90 #[v, .agg #[.int .i64 x.c.id, .int .i64 x.c.dim, x.v]] h ms (.int .i64 (BR (l.map Ce.c) x.c)) := by
 refine IV ?_ ms
 have o1 := hR.rd.one
 have o2 := hX.rd.one
 refine Av func90 ntmps90 rfl rfl (fun w0 hw0 => ?_)
 simp only [A5]
 refine Az ?_
 refine A8 [_, _, _] rfl rfl (by rfl) rfl rfl rfl (fun g3 => ?_)
 refine Qm rfl (An (AA fun h1 l1 hS => ?_))
 have hR := hR.up l1
 have hX := hX.up l1
 have hA := Seg.all hS
 refine Ac (Az (Qf BC rfl (Ql rfl underlying3 (hA _ _ rfl _) (Qm rfl (Qm rfl ?_)))))
 refine AQ (t := 12) rfl (fun g1 => ?_) (fun g1 => ?_)
 ·refine Qk rfl (Qk rfl (Qk rfl (Qm rfl (An (Bk rfl (Az (Qm rfl (An (Aq (Ae ?_))))))))))
  exact As rfl rfl (by unfold BR; rw [if_pos (.inl g1)])
 ·refine Qg (oF BC rfl) rfl (Qg (oL rfl underlying3 (hA _ _ rfl _)) rfl (Qg (BY rfl rfl rfl) rfl (Qm rfl (An ?_))))
  refine Ax rfl (fun g2 => ?_) (fun g2 => ?_)
  ·refine Ac (Ab (Qm rfl (An (Aq (Ae ?_)))))
   exact As rfl rfl (by unfold BR; rw [if_pos (.inr g2)])
  ·have hd : ¬ (x.c.dim < 0 ∨ 8 < x.c.dim) := by omega
   refine Ai (Ad (Az (Qf Bl rfl (Ql rfl underlying57 (hA _ _ rfl _) (Qx (AC hX.rd.any rfl underlying57 rfl) rfl (Qm rfl (An ?_)))))))
   refine AV (fun s h' ms' => s = [(0, v), (3, .pointer (some ⟨g3, 0, none⟩)), (5, .int .i64 x.c.sd.length)] ∧ h1 = h' ∧ ms' = [] ∧ ¬ BD x.c) ?_ (fun s h ms hI => ?_)
   ·refine Ac (Ab (Qf BC rfl (Ql rfl underlying3 (hA _ _ rfl _) (Qm rfl (Qm rfl ?_)))))
    refine AQ (t := 23) rfl (fun a1 => ?_) (fun a1 => ?_)
    ·refine Qg (Au rfl rfl) rfl (Qg (BY rfl rfl rfl) rfl (Qm rfl (Qm rfl ?_)))
     refine AQ (t := 27) rfl (fun a2 => ?_) (fun a2 => ?_)
     ·refine Qk rfl (Qk rfl (Qk rfl (Qk rfl (AP rfl rfl rfl rfl rfl rfl (AP rfl rfl rfl rfl rfl rfl (Qk rfl (Qm rfl (Qm rfl (Qk rfl (Qk rfl (Qk rfl (Qk rfl (AP rfl rfl rfl rfl rfl rfl (AP rfl rfl rfl rfl rfl rfl (AP rfl rfl rfl rfl rfl rfl (AP rfl rfl rfl rfl rfl rfl (AP rfl rfl rfl rfl rfl rfl (AP rfl rfl rfl rfl rfl rfl (Qk rfl (Qm rfl (An (Bk rfl (Az (Qm rfl (An (Aq (Ae ?_)))))))))))))))))))))))))))
      exact As rfl rfl (by unfold BR; rw [if_neg hd, if_pos (by unfold BD; omega)])
     ·refine Qg (oF BC rfl) rfl (Qg (oL rfl underlying3 (hA _ _ rfl _)) rfl (Qg (DD rfl rfl rfl) rfl (Qg (Au rfl rfl) rfl ?_)))
      refine AQ (t := 31) rfl (fun a3 => ?_) (fun a3 => ?_)
      ·exact absurd a3 (by omega)
      ·refine Qk rfl (Qk rfl (Qg (BS rfl rfl rfl) rfl (Qm rfl (Qm rfl (Qg (oF BC rfl) rfl (Qg (oL rfl underlying3 (hA _ _ rfl _)) rfl (Qg (BY rfl rfl rfl) rfl (Qg (Au rfl rfl) rfl ?_))))))))
       refine AQ (t := 40) rfl (fun a4 => ?_) (fun a4 => ?_)
       ·exact absurd a4 (by omega)
       ·refine Qk rfl (Qk rfl (Qk rfl (AP rfl rfl rfl rfl rfl rfl (AP rfl rfl rfl rfl rfl rfl (Qk rfl (Qg (BS rfl rfl rfl) rfl (Qm rfl (An (AO rfl (Ai ?_))))))))))
        exact Ay _ ⟨rfl, rfl, rfl, by unfold BD; omega⟩ Qs
    ·refine Qk rfl (Qk rfl (Qm rfl (Qm rfl (Qg (oF BC rfl) rfl (Qg (oL rfl underlying3 (hA _ _ rfl _)) rfl (Qg (DD rfl rfl rfl) rfl (Qg (Au rfl rfl) rfl ?_)))))))
     refine AQ (t := 31) rfl (fun a3 => ?_) (fun a3 => ?_)
     ·refine Qg (Au rfl rfl) rfl (Qg (DP rfl rfl rfl) rfl (Qg (B8 rfl rfl rfl) rfl (Qm rfl (Qm rfl ?_))))
      refine AQ (t := 36) rfl (fun a5 => ?_) (fun a5 => ?_)
      ·refine Qk rfl (Qk rfl (Qk rfl (Qk rfl (AP rfl rfl rfl rfl rfl rfl (AP rfl rfl rfl rfl rfl rfl (AP rfl rfl rfl rfl rfl rfl (AP rfl rfl rfl rfl rfl rfl (AP rfl rfl rfl rfl rfl rfl (AP rfl rfl rfl rfl rfl rfl (Qk rfl (Qm rfl (An (Bk rfl (Az (Qm rfl (An (Aq (Ae ?_))))))))))))))))))
       exact As rfl rfl (by unfold BR; rw [if_neg hd, if_pos (by unfold BD; omega)])
      ·refine Qg (oF BC rfl) rfl (Qg (oL rfl underlying3 (hA _ _ rfl _)) rfl (Qg (BY rfl rfl rfl) rfl (Qg (Au rfl rfl) rfl ?_)))
       refine AQ (t := 40) rfl (fun a6 => ?_) (fun a6 => ?_)
       ·exact absurd a6 (by omega)
       ·refine Qk rfl (Qk rfl (Qk rfl (AP rfl rfl rfl rfl rfl rfl (AP rfl rfl rfl rfl rfl rfl (Qk rfl (Qg (BS rfl rfl rfl) rfl (Qm rfl (An (AO rfl (Ai ?_))))))))))
        exact Ay _ ⟨rfl, rfl, rfl, by unfold BD; omega⟩ Qs
     ·refine Qk rfl (Qk rfl (Qg (BS rfl rfl rfl) rfl (Qm rfl (Qm rfl (Qg (oF BC rfl) rfl (Qg (oL rfl underlying3 (hA _ _ rfl _)) rfl (Qg (BY rfl rfl rfl) rfl (Qg (Au rfl rfl) rfl ?_))))))))
      refine AQ (t := 40) rfl (fun a6 => ?_) (fun a6 => ?_)
      ·refine Qg (Au rfl rfl) rfl (Qg (C0 rfl rfl rfl) rfl (Qg (Au rfl rfl) rfl ?_))
       refine AQ (t := 43) rfl (fun a7 => ?_) (fun a7 => ?_)
       ·refine Qk rfl (Qk rfl (Qg (B8 rfl rfl rfl) rfl (Qg (B8 rfl rfl rfl) rfl (Qm rfl (An (Bk rfl (Az (Qm rfl (An (Aq (Ae ?_)))))))))))
        exact As rfl rfl (by unfold BR; rw [if_neg hd, if_pos (by unfold BD; omega)])
       ·refine Qg (Au rfl rfl) rfl (Qg (BY rfl rfl rfl) rfl (Qg (BS rfl rfl rfl) rfl (Qg (B8 rfl rfl rfl) rfl (Qm rfl (An ?_)))))
        refine Ax rfl (fun a8 => ?_) (fun a8 => ?_)
        ·refine Ac (Ab (Qm rfl (An (Aq (Ae ?_)))))
         exact As rfl rfl (by unfold BR; rw [if_neg hd, if_pos (by unfold BD; omega)])
        ·refine Ai ?_
         exact Ay _ ⟨rfl, rfl, rfl, by unfold BD; omega⟩ Qs
      ·exact absurd a6 (by omega)
   ·obtain ⟨rfl, rfl, rfl, hnb⟩ := hI
    refine Ac (Az (Qm rfl (An (Ah ?_))))
    refine AD (fun q s h' ms' => ∃ (i : Nat), q = x.c.sd.length - i ∧ s = [(0, v), (3, .pointer (some ⟨g3, 0, none⟩)), (5, .int .i64 x.c.sd.length), (6, .int .i64 i)] ∧ h1 = h' ∧ ms' = [] ∧ i ≤ x.c.sd.length ∧ ∀ j, j < i → ¬ B6 (l.map Ce.c) x.c j)
     (x.c.sd.length - 0) _ ⟨0, rfl, rfl, rfl, rfl, by omega, fun j hj => by omega⟩ Qs ?_
    rintro q s h' ms' ⟨i, rfl, rfl, rfl, rfl, hi, hno⟩
    refine Ac (Az (Qm rfl (Qm rfl (Qm rfl (An ?_)))))
    refine Ax rfl (fun hlt => ?_) (fun hlt => ?_)
    ·have hil : i < x.c.sd.length := Ci hlt
     have hsi := A4 hil
     have hci : Cell h1 [] ((AI x.v).add (i * 2)) (.int .i64 x.c.sd[i].1) := hX.cell0 hil rfl
     obtain ⟨k, hk⟩ : ∃ k, Im (l.map Ce.c) x.c.sd[i].1 = k := ⟨_, rfl⟩
     have hkl := JF (l.map Ce.c) x.c.sd[i].1
     rw [hk, List.length_map] at hkl
     have hround : ¬ B6 (l.map Ce.c) x.c i → ∀ j, j < i + 1 → ¬ B6 (l.map Ce.c) x.c j := fun hb j hj => by
      rcases (by omega : j < i ∨ j = i) with h | rfl
      ·exact hno j h
      ·exact hb
     refine Ai (Ad (Ac (Ah (Az (Qm rfl (Qf Bl rfl (Ql rfl underlying57 (hA _ _ rfl _) (Qm rfl (Qx (Af (i) hX.rd.any rfl underlying57 AR rfl rfl (by omega) (by omega)) rfl (Qf Cc rfl (Ql rfl underlying3 (hci) (Qx (AG rfl call44 rfl (UF l v _ h1 hn hst hR _)) rfl (Qm rfl (An ?_))))))))))))))
     rw [hk]
     refine Ac (Bb 30 CN (by kernel_rfl) rfl (Wm rfl (Wm rfl (Wm rfl ?_))))
     refine BV (t := 64) rfl (fun b1 => ?_) (fun b1 => ?_)
     ·refine Ap rfl rfl rfl rfl rfl (Ap rfl rfl rfl rfl rfl (Ap rfl rfl rfl rfl rfl (Ap rfl rfl rfl rfl rfl (Ap rfl rfl rfl rfl rfl (Ap rfl rfl rfl rfl rfl (Ap rfl rfl rfl rfl rfl (Ap rfl rfl rfl rfl rfl (Ap rfl rfl rfl rfl rfl (Wm rfl (Wm rfl (Ap rfl rfl rfl rfl rfl (Ap rfl rfl rfl rfl rfl (Ap rfl rfl rfl rfl rfl (AL rfl rfl rfl rfl (AL rfl rfl rfl rfl (AL rfl rfl rfl rfl (AL rfl rfl rfl rfl (AL rfl rfl rfl rfl (AL rfl rfl rfl rfl (AL rfl rfl rfl rfl (AL rfl rfl rfl rfl (AL rfl rfl rfl rfl (AL rfl rfl rfl rfl (AL rfl rfl rfl rfl (AL rfl rfl rfl rfl (AL rfl rfl rfl rfl (AU (AP rfl rfl rfl rfl rfl rfl (Qk rfl (Qm rfl (An (Bk rfl (Az (Qm rfl (An (Aq (Al (Ae (Ae ?_)))))))))))))))))))))))))))))))))))))))
      refine Al (Ae ?_)
      exact As rfl rfl (by unfold BR; rw [if_neg hd, if_neg hnb, if_pos (fun q => q i hil (by unfold B6; rw [hsi, hk]; exact .inl b1))])
     ·obtain ⟨m, rfl⟩ : ∃ m : Nat, k = m := ⟨k.toNat, by omega⟩
      have hml : m < l.length := by omega
      have hcd : Cell h1 [] (((AI v).add (m * 3)).add 1) (.int .i64 l[m].c.dim) := hR.cell hml (f := 1) rfl
      have hgd : (l.map Ce.c).getD ((m : Int).toNat) default = l[m].c := by simp [List.getD, hml]
      refine AF (Au rfl rfl) rfl rfl rfl rfl (AF (Au rfl rfl) rfl rfl rfl rfl (AF (Af (m) hR.rd.any rfl underlying27 AH rfl rfl (by omega) (by omega)) rfl rfl rfl rfl (AF (oF BC rfl) rfl rfl rfl rfl (AF (oL rfl underlying3 (hcd)) rfl rfl rfl rfl (AF (oF BC rfl) rfl rfl rfl rfl (AF (oL rfl underlying3 (hA _ _ rfl _)) rfl rfl rfl rfl (AF (oS rfl) rfl rfl rfl rfl (AF (DP rfl rfl rfl) rfl rfl rfl rfl (Wm rfl (Wm rfl ?_))))))))))
      refine BV (t := 75) rfl (fun b2 => ?_) (fun b2 => ?_)
      ·refine Ap rfl rfl rfl rfl rfl (Ap rfl rfl rfl rfl rfl (Ap rfl rfl rfl rfl rfl (AL rfl rfl rfl rfl (AL rfl rfl rfl rfl (AL rfl rfl rfl rfl (AL rfl rfl rfl rfl (AL rfl rfl rfl rfl (AL rfl rfl rfl rfl (AL rfl rfl rfl rfl (AL rfl rfl rfl rfl (AL rfl rfl rfl rfl (AL rfl rfl rfl rfl (AL rfl rfl rfl rfl (AL rfl rfl rfl rfl (AL rfl rfl rfl rfl (AU (AP rfl rfl rfl rfl rfl rfl (Qk rfl (Qm rfl (An (Bk rfl (Az (Qm rfl (An (Aq (Al (Ae (Ae (Al (Ae ?_))))))))))))))))))))))))))))))
       exact As rfl rfl (by unfold BR; rw [if_neg hd, if_neg hnb, if_pos (fun q => q i hil (by unfold B6; rw [hsi, hk, hgd]; exact .inr (.inl b2)))])
      ·refine AF (Au rfl rfl) rfl rfl rfl rfl (AF (BY rfl rfl rfl) rfl rfl rfl rfl (AF (Au rfl rfl) rfl rfl rfl rfl ?_))
       refine BV (t := 78) rfl (fun b3 => ?_) (fun b3 => ?_)
       ·have hip : i - 1 < x.c.sd.length := by omega
        have hsp := A4 hip
        have hcp : Cell h1 [] ((AI x.v).add ((i - 1) * 2)) (.int .i64 x.c.sd[i - 1].1) := hX.cell0 hip rfl
        refine AF (oF Bl rfl) rfl rfl rfl rfl (AF (oL rfl underlying57 (hA _ _ rfl _)) rfl rfl rfl rfl (AF (Au rfl rfl) rfl rfl rfl rfl (AF (Af (i) hX.rd.any rfl underlying57 AR rfl rfl (by omega) (by omega)) rfl rfl rfl rfl (AF (oF Cc rfl) rfl rfl rfl rfl (AF (oL rfl underlying3 (hci)) rfl rfl rfl rfl (AF (oF Bl rfl) rfl rfl rfl rfl (AF (oL rfl underlying57 (hA _ _ rfl _)) rfl rfl rfl rfl (AF (Au rfl rfl) rfl rfl rfl rfl (AF (oS rfl) rfl rfl rfl rfl (AF (Af (i - 1) hX.rd.any rfl underlying57 AR rfl rfl (by omega) (by omega)) rfl rfl rfl rfl (AF (oF Cc rfl) rfl rfl rfl rfl (AF (oL rfl underlying3 (hcp)) rfl rfl rfl rfl (AU (Qg (DD rfl rfl rfl) rfl (Qg (B8 rfl rfl rfl) rfl (Qm rfl (An ?_)))))))))))))))))
        refine Ax rfl (fun b4 => ?_) (fun b4 => ?_)
        ·refine Ac (Ab (Qm rfl (An (Aq (Al (Ae (Ae (Al (Ae ?_)))))))))
         exact As rfl rfl (by unfold BR; rw [if_neg hd, if_neg hnb, if_pos (fun q => q i hil (by unfold B6; rw [hsi, hsp, hk, hgd]; exact .inr (.inr ⟨by omega, b4⟩)))])
        ·refine Ai (Aj (Ad (Ab (Qm rfl (Qx (oA rfl) rfl (Qm rfl (Ak ?_)))))))
         exact Am (x.c.sd.length - (i + 1)) _ (by omega) ⟨i + 1, rfl, rfl, rfl, rfl, by omega, hround (by unfold B6; rw [hsi, hsp, hk, hgd]; omega)⟩ Qs
       ·refine Ap rfl rfl rfl rfl rfl (Ap rfl rfl rfl rfl rfl (Ap rfl rfl rfl rfl rfl (Ap rfl rfl rfl rfl rfl (Ap rfl rfl rfl rfl rfl (Ap rfl rfl rfl rfl rfl (Ap rfl rfl rfl rfl rfl (Ap rfl rfl rfl rfl rfl (Ap rfl rfl rfl rfl rfl (Ap rfl rfl rfl rfl rfl (Ap rfl rfl rfl rfl rfl (Ap rfl rfl rfl rfl rfl (Ap rfl rfl rfl rfl rfl (AU (Qk rfl (Qg (BS rfl rfl rfl) rfl (Qm rfl (An (AO rfl (Ai (Aj (Ad (Ab (Qm rfl (Qx (oA rfl) rfl (Qm rfl (Ak ?_))))))))))))))))))))))))))
        exact Am (x.c.sd.length - (i + 1)) _ (by omega) ⟨i + 1, rfl, rfl, rfl, rfl, by omega, hround (by unfold B6; rw [hsi, hk, hgd]; omega)⟩ Qs
    ·obtain rfl : i = x.c.sd.length := by omega
     have hs2 : ¬ ¬ ∀ i, i < x.c.sd.length → ¬ B6 (l.map Ce.c) x.c i := fun q => q hno
     refine Aw (Aa (Aa (Ag (Ad (Ac (Az (Qm rfl (An (Ah ?_)))))))))
     refine AD (fun q s h' ms' => ∃ (i : Nat), q = x.c.sd.length - i ∧ s = [(0, v), (3, .pointer (some ⟨g3, 0, none⟩)), (5, .int .i64 x.c.sd.length), (8, .int .i64 i)] ∧ h1 = h' ∧ ms' = [] ∧ i ≤ x.c.sd.length ∧ ∀ j, j < i → ¬ Bw x.c j)
      (x.c.sd.length - 0) _ ⟨0, rfl, rfl, rfl, rfl, by omega, fun j hj => by omega⟩ Qs ?_
     rintro q s h' ms' ⟨i, rfl, rfl, rfl, rfl, hi, hno2⟩
     refine Ac (Az (Qm rfl (Qm rfl (Qm rfl (An ?_)))))
     refine Ax rfl (fun hlt2 => ?_) (fun hlt2 => ?_)
     ·have hil : i < x.c.sd.length := Ci hlt2
      have hsi := A4 hil
      have hci : Cell h1 [] (((AI x.v).add (i * 2)).add 1) (.int .i64 x.c.sd[i].2) := hX.cell hil (f := 1) rfl
      have hround : ¬ Bw x.c i → ∀ j, j < i + 1 → ¬ Bw x.c j := fun hb j hj => by
       rcases (by omega : j < i ∨ j = i) with h | rfl
       ·exact hno2 j h
       ·exact hb
      refine Ai (Ad (Ac (Ah (Az (Qf Bl rfl (Ql rfl underlying57 (hA _ _ rfl _) (Qm rfl (Qx (Af (i) hX.rd.any rfl underlying57 AR rfl rfl (by omega) (by omega)) rfl (Qf Cv rfl (Ql rfl underlying3 (hci) (Qm rfl (Qm rfl ?_))))))))))))
      refine AQ (t := 107) rfl (fun c1 => ?_) (fun c1 => ?_)
      ·refine Qg (oF Bl rfl) rfl (Qg (oL rfl underlying57 (hA _ _ rfl _)) rfl (Qg (Au rfl rfl) rfl (Qg (Af (i) hX.rd.any rfl underlying57 AR rfl rfl (by omega) (by omega)) rfl (Qg (oF Cv rfl) rfl (Qg (oL rfl underlying3 (hci)) rfl (Qg (DP rfl rfl rfl) rfl (Qm rfl (An ?_))))))))
       refine Ax rfl (fun c2 => ?_) (fun c2 => ?_)
       ·refine Ac (Ab (Qm rfl (An (Aq (Al (Ae (Ae (Al (Ae ?_)))))))))
        exact As rfl rfl (by unfold BR; rw [if_neg hd, if_neg hnb, if_neg hs2, if_pos (fun q => q i hil (by unfold Bw; rw [hsi]; exact ⟨c1, c2⟩))])
       ·refine Ai (Aj (Ad (Ab (Qm rfl (Qx (oA rfl) rfl (Qm rfl (Ak ?_)))))))
        exact Am (x.c.sd.length - (i + 1)) _ (by omega) ⟨i + 1, rfl, rfl, rfl, rfl, by omega, hround (by unfold Bw; rw [hsi]; exact fun q => c2 q.2)⟩ Qs
      ·refine Qk rfl (Qk rfl (Qk rfl (Qk rfl (Qk rfl (Qk rfl (Qk rfl (Qm rfl (An (AO rfl (Ai (Aj (Ad (Ab (Qm rfl (Qx (oA rfl) rfl (Qm rfl (Ak ?_)))))))))))))))))
       exact Am (x.c.sd.length - (i + 1)) _ (by omega) ⟨i + 1, rfl, rfl, rfl, rfl, by omega, hround (by unfold Bw; rw [hsi]; exact fun q => c1 q.1)⟩ Qs
     ·obtain rfl : i = x.c.sd.length := by omega
      have hs3 : ¬ ¬ ∀ i, i < x.c.sd.length → ¬ Bw x.c i := fun q => q hno2
      refine Aw (Aa (Aa (Ag (Ad (Ac (Ac (Bb 14 CN (by kernel_rfl) rfl (Wf BC rfl (Wl rfl underlying3 (hA _ _ rfl _) (Wm rfl (Wm rfl ?_)))))))))))
      refine BV (t := 119) rfl (fun d1 => ?_) (fun d1 => ?_)
      ·have h2 : x.c.sd.length = 2 := by
        unfold BD at hnb; omega
       have hl0 : 0 < x.c.sd.length := by omega
       have hl1 : 1 < x.c.sd.length := by omega
       have hs0 := A4 hl0
       have hs1 := A4 hl1
       have hc0 : Cell h1 [] (((AI x.v).add (0 * 2)).add 1) (.int .i64 x.c.sd[0].2) := hX.cell hl0 (f := 1) rfl
       have hc1 : Cell h1 [] (((AI x.v).add (1 * 2)).add 1) (.int .i64 x.c.sd[1].2) := hX.cell hl1 (f := 1) rfl
       refine AF (oF Bl rfl) rfl rfl rfl rfl (AF (oL rfl underlying57 (hA _ _ rfl _)) rfl rfl rfl rfl (AF (Af (0) hX.rd.any rfl underlying57 AR rfl rfl (by omega) (by omega)) rfl rfl rfl rfl (AF (oF Cv rfl) rfl rfl rfl rfl (AF (oL rfl underlying3 (hc0)) rfl rfl rfl rfl (AF (oF Bl rfl) rfl rfl rfl rfl (AF (oL rfl underlying57 (hA _ _ rfl _)) rfl rfl rfl rfl (AF (Af (1) hX.rd.any rfl underlying57 AR rfl rfl (by omega) (by omega)) rfl rfl rfl rfl (AF (oF Cv rfl) rfl rfl rfl rfl (AF (oL rfl underlying3 (hc1)) rfl rfl rfl rfl (AU (Qg (DD rfl rfl rfl) rfl (Qm rfl (An ?_)))))))))))))
       refine Ax rfl (fun d2 => ?_) (fun d2 => ?_)
       ·refine Ac (Ab (Qm rfl (An (Aq (Ae ?_)))))
        exact As rfl rfl (by unfold BR; rw [if_neg hd, if_neg hnb, if_neg hs2, if_neg hs3, if_pos ⟨d1, by rw [hs0, hs1]; exact d2⟩])
       ·refine Ai (Ad (Az (Qm rfl (An (Aq ?_)))))
        exact As rfl rfl (by unfold BR; rw [if_neg hd, if_neg hnb, if_neg hs2, if_neg hs3, if_neg (fun q => d2 (by have := q.2; rwa [hs0, hs1] at this))])
      ·refine Ap rfl rfl rfl rfl rfl (Ap rfl rfl rfl rfl rfl (Ap rfl rfl rfl rfl rfl (Ap rfl rfl rfl rfl rfl (Ap rfl rfl rfl rfl rfl (Ap rfl rfl rfl rfl rfl (Ap rfl rfl rfl rfl rfl (Ap rfl rfl rfl rfl rfl (Ap rfl rfl rfl rfl rfl (Ap rfl rfl rfl rfl rfl (AU (Qk rfl (Qm rfl (An (AO rfl (Ai (Ad (Az (Qm rfl (An (Aq ?_))))))))))))))))))))
       exact As rfl rfl (by unfold BR; rw [if_neg hd, if_neg hnb, if_neg hs2, if_neg hs3, if_neg (fun q => d1 q.1)])
end Go.Proofs.YtodheebhahdepaaGreat
namespace Go.Proofs.YtodheebhahdepaaGreat
open Go.Eng Go.RowKit
variable {n T i k m : Nat} {l pa : List Int} {now old w : Int}
def DJ (l : List Int) (x : Int) : Nat := (l.takeWhile fun y => decide (y ≠ x)).length
theorem MX (l : List Int) (x : Int) : DJ l x ≤ l.length := (List.takeWhile_sublist _).length_le
theorem Nq {x : Int} (hk : k ≤ l.length) (h1 : ∀ j (hj : j < l.length), j < k → l[j] ≠ x) (h2 : ∀ hk : k < l.length, l[k] = x) : DJ l x = k := by
 obtain ⟨e1, _⟩ := DK (fun y : Int => decide (y ≠ x)) l k hk (fun j hj hjk => decide_eq_true (h1 j hj hjk)) (fun hk => decide_eq_false (fun q => q (h2 hk)))
 unfold DJ
 rw [e1, List.length_take]; omega
def Eu (pa : List Int) (m : Nat) (now old : Int) : List Int := pa.mapIdx fun j p => if j < m ∧ p = now then old else p
theorem CE (pa : List Int) (m : Nat) (now old : Int) : (Eu pa m now old).length = pa.length := by simp [Eu]
theorem D1 {j : Nat} (hj : j < pa.length) : (Eu pa m now old)[j]'(by rw [CE]; exact hj) = if j < m ∧ pa[j] = now then old else pa[j] := by simp [Eu]
theorem QU (pa : List Int) (now old : Int) : Eu pa 0 now old = pa := by
 refine List.ext_getElem (by rw [CE]) fun j h1 h2 => ?_
 rw [D1 h2, if_neg (fun q => by omega)]
theorem Uj (hm : m < pa.length) (h : pa[m] = now) : (Eu pa m now old).set m old = Eu pa (m + 1) now old := by
 refine List.ext_getElem (by rw [List.length_set, CE, CE]) fun j h1 h2 => ?_
 rw [CE] at h2
 rw [List.getElem_set]
 by_cases e : m = j
 ·subst e; rw [if_pos rfl, D1 h2, if_pos ⟨by omega, h⟩]
 ·rw [if_neg e, D1 h2, D1 h2]
  by_cases h3 : j < m
  ·simp only [h3, true_and, show j < m + 1 by omega]
  ·rw [if_neg (fun q => h3 q.1), if_neg (fun q => by omega)]
theorem UY (hm : m < pa.length) (h : pa[m] ≠ now) : Eu pa m now old = Eu pa (m + 1) now old := by
 refine List.ext_getElem (by rw [CE, CE]) fun j h1 h2 => ?_
 rw [CE] at h2
 rw [D1 h2, D1 h2]
 by_cases e : m = j
 ·subst e; rw [if_neg (fun q => by omega), if_neg (fun q => h q.2)]
 ·by_cases h3 : j < m
  ·simp only [h3, true_and, show j < m + 1 by omega]
  ·rw [if_neg (fun q => h3 q.1), if_neg (fun q => by omega)]
structure S2 where
 ids : List Int
 su : List Int
 ma : List Int
 fi : List Int
 pa : List Int
def S2.add (S : S2) (i : Nat) (id : Int) : S2 := if DJ S.ids id = S.ids.length then ⟨S.ids ++ [id], S.su ++ [0], S.ma ++ [0], S.fi ++ [(i : Int)], S.pa⟩ else S
def S2.hit (S : S2) (i k : Nat) (w : Int) : S2 := ⟨S.ids, S.su.set k (S.su.getD k 0 + w), S.ma.set k (S.ma.getD k 0 + 1), S.fi, Eu S.pa (i + 1) (S.pa.getD i 0) (S.pa.getD (S.fi.getD k 0).toNat 0)⟩
def S2.side (S : S2) (i : Nat) (w : Int) (r : Int × Int) : S2 := (S.add i r.1).hit i (DJ S.ids r.1) (w * r.2)
def S2.sides (S : S2) (i : Nat) (w : Int) (l : List (Int × Int)) : S2 := l.foldl (fun S r => S.side i w r) S
theorem S2.sides_snoc (S : S2) (i : Nat) (w : Int) (l : List (Int × Int)) (r : Int × Int) : S.sides i w (l ++ [r]) = (S.sides i w l).side i w r := by
 unfold S2.sides
 rw [List.foldl_append]; rfl
def S2.start (S : S2) (i : Nat) : S2 := ⟨S.ids, S.su, S.ma, S.fi, S.pa.set i (i : Int)⟩
def Ez (l : List Cl) (x : Cl) (i : Nat) : Cl := l.getD (Im l (Bc x i).1).toNat default
def Gf (l : List Cl) (x : Cl) : Nat → S2
 | 0 => ⟨[], [], [], [], List.replicate x.sd.length 0⟩
 | i + 1 => ((Gf l x i).start i).sides i (Bc x i).2 (Ez l x i).sd
def Dk (l : List Cl) (x : Cl) : Int :=
 if ¬ ∀ y ∈ (Gf l x x.sd.length).su, y = 0 then 24
 else if ¬ ∀ y ∈ (Gf l x x.sd.length).ma, y = 2 then 25
 else if ¬ ∀ y ∈ (Gf l x x.sd.length).pa, y = (Gf l x x.sd.length).pa.getD 0 0 then 25 else 0
structure S2.Ok (S : S2) (T n : Nat) : Prop where
 s : S.su.length = S.ids.length
 m : S.ma.length = S.ids.length
 f : S.fi.length = S.ids.length
 p : S.pa.length = n
 t : S.ids.length ≤ T
 sb : ∀ y ∈ S.su, -(T : Int) ≤ y ∧ y ≤ T
 mb : ∀ y ∈ S.ma, 0 ≤ y ∧ y ≤ T
 fb : ∀ y ∈ S.fi, 0 ≤ y ∧ y < n
theorem F4 {a y : Int} (h : y ∈ l ++ [a]) : y ∈ l ∨ y = a := by
 rcases List.mem_append.1 h with h | h
 ·exact .inl h
 ·exact .inr (List.mem_singleton.1 h)
theorem S2.Ok.add {S : S2} (K : S.Ok T n) (hi : i < n) (id : Int) : (S.add i id).Ok (T + 1) n ∧ DJ S.ids id < (S.add i id).ids.length := by
 have hf := MX S.ids id
 unfold S2.add
 split
 ·rename_i h
  refine ⟨⟨by simp [K.s], by simp [K.m], by simp [K.f], K.p, by simp [K.t], fun y hy => ?_, fun y hy => ?_, fun y hy => ?_⟩, by rw [List.length_append, List.length_singleton]; omega⟩
  ·rcases F4 hy with h | rfl
   ·have := K.sb y h; omega
   ·omega
  ·rcases F4 hy with h | rfl
   ·have := K.mb y h; omega
   ·omega
  ·rcases F4 hy with h | rfl
   ·exact K.fb y h
   ·omega
 ·rename_i h
  exact ⟨⟨K.s, K.m, K.f, K.p, by have := K.t; omega, fun y hy => by have := K.sb y hy; omega, fun y hy => by have := K.mb y hy; omega, K.fb⟩, by omega⟩
theorem NN (hk : k < l.length) : l.getD k 0 ∈ l := by simp [List.getD, hk]
theorem S2.Ok.hit {S : S2} (K : S.Ok (T + 1) n) {U : S2} (KU : U.Ok T n) (hsu : ∀ y ∈ S.su, -(T : Int) ≤ y ∧ y ≤ T) (hma : ∀ y ∈ S.ma, 0 ≤ y ∧ y ≤ T) (hk : k < S.ids.length) (hw : w = 1 ∨ w = -1) : (S.hit i k w).Ok (T + 1) n := by
 have h1 := hsu _ (NN (show k < S.su.length by rw [K.s]; exact hk))
 have h2 := hma _ (NN (show k < S.ma.length by rw [K.m]; exact hk))
 refine ⟨by show (List.set _ _ _).length = _; rw [List.length_set]; exact K.s, by show (List.set _ _ _).length = _; rw [List.length_set]; exact K.m, K.f, by show (Eu _ _ _ _).length = _; rw [CE]; exact K.p, K.t, fun y hy => ?_, fun y hy => ?_, K.fb⟩
 ·rcases List.mem_or_eq_of_mem_set hy with h | rfl
  ·exact K.sb y h
  ·rcases hw with rfl | rfl <;> omega
 ·rcases List.mem_or_eq_of_mem_set hy with h | rfl
  ·exact K.mb y h
  ·omega
theorem S2.add_su {S : S2} (K : S.Ok T n) (i : Nat) (id : Int) : (∀ y ∈ (S.add i id).su, -(T : Int) ≤ y ∧ y ≤ T) ∧ ∀ y ∈ (S.add i id).ma, 0 ≤ y ∧ y ≤ T := by
 unfold S2.add
 split
 ·refine ⟨fun y hy => ?_, fun y hy => ?_⟩
  ·rcases F4 hy with h | rfl
   ·exact K.sb y h
   ·omega
  ·rcases F4 hy with h | rfl
   ·exact K.mb y h
   ·omega
 ·exact ⟨K.sb, K.mb⟩
theorem S2.Ok.side {S : S2} (K : S.Ok T n) (hi : i < n) {r : Int × Int} (hw : w * r.2 = 1 ∨ w * r.2 = -1) : (S.side i w r).Ok (T + 1) n :=
 S2.Ok.hit (K.add hi r.1).1 K (S2.add_su K i r.1).1 (S2.add_su K i r.1).2 (K.add hi r.1).2 hw
theorem S2.Ok.start {S : S2} (K : S.Ok T n) : (S.start i).Ok T n := ⟨K.s, K.m, K.f, by show (List.set _ _ _).length = n; rw [List.length_set]; exact K.p, K.t, K.sb, K.mb, K.fb⟩
theorem MM {a b : Int} (ha : a = 1 ∨ a = -1) (hb : b = 1 ∨ b = -1) : a * b = 1 ∨ a * b = -1 := by
 rcases ha with rfl | rfl <;> rcases hb with rfl | rfl <;> decide
theorem S2.Ok.sides (hi : i < n) (hw : w = 1 ∨ w = -1) : ∀ (l : List (Int × Int)) (S : S2) (T : Nat), S.Ok T n → (∀ r ∈ l, r.2 = 1 ∨ r.2 = -1) → (S.sides i w l).Ok (T + l.length) n
 | [], S, T, K, _ => K
 | r :: l, S, T, K, h => by
  have := S2.Ok.sides hi hw l (S.side i w r) (T + 1) (K.side hi (MM hw (h r (List.Mem.head _)))) (fun r hr => h r (List.mem_cons_of_mem _ hr))
  rw [List.length_cons, show T + (l.length + 1) = T + 1 + l.length by omega]
  exact this
end Go.Proofs.YtodheebhahdepaaGreat

namespace Go.Proofs.YtodheebhahdepaaGreat
open Go.Proofs.Tryz
open Go.Eng Go.RowKit
structure Xf (S : S2) (v5 v6 v7 v8 v9 : Value) (m5 m6 m7 m8 m9 : Hp) : Prop where
 i : OwnL cI 1 3 m5 v5 S.ids
 s : OwnL cI 1 3 m6 v6 S.su
 m : OwnL cI 1 3 m7 v7 S.ma
 p : OwnL cI 1 3 m8 v8 S.pa
 f : OwnL cI 1 3 m9 v9 S.fi
structure P0 (l : List Cl) (x : Cl) : Prop where
 n : x.sd.length ≤ 64
 sg : ∀ i, i < x.sd.length → (Bc x i).2 = 1 ∨ (Bc x i).2 = -1
 at_ : ∀ i, i < x.sd.length → 0 ≤ Im l (Bc x i).1
 yn : ∀ i, i < x.sd.length → (Ez l x i).sd.length ≤ 64
 ys : ∀ i, i < x.sd.length → ∀ r ∈ (Ez l x i).sd, r.2 = 1 ∨ r.2 = -1
theorem QQ {l : List Cl} {x : Cl} (K : P0 l x) : ∀ i, i ≤ x.sd.length → (Gf l x i).Ok (64 * i) x.sd.length
 | 0, _ => ⟨rfl, rfl, rfl, by simp [Gf], Nat.le_refl _, fun y hy => (by cases hy), fun y hy => (by cases hy), fun y hy => (by cases hy)⟩
 | i + 1, hi => by
  have h1 := S2.Ok.sides (i := i) (by omega) (K.sg i (by omega)) (Ez l x i).sd _ _ ((QQ K i (by omega)).start (i := i)) (K.ys i (by omega))
  have h2 := K.yn i (by omega)
  show (S2.sides _ _ _ _).Ok _ _
  exact ⟨h1.s, h1.m, h1.f, h1.p, by have := h1.t; omega, fun y hy => by have := h1.sb y hy; omega, fun y hy => by have := h1.mb y hy; omega, h1.fb⟩
theorem XY {l : List Ce} {y : Int} {k : Nat} (e : Im (l.map Ce.c) y = k) (v : Value) (h : Hp) (hn : l.length ≤ 100000) (hst : (l.map Ce.c).Pairwise fun a b => a.id ≤ b.id) (hR : RdL cC 3 h [] v l) (ms : List Hp) : FnV Tryz.prog 44 #[v, .int .i64 y] h ms (.int .i64 k) := e ▸ UF l v y h hn hst hR ms
theorem RC (l : List Ce) (x : Ce) (v : Value) (h : Hp) (hn : l.length ≤ 100000) (K : P0 (l.map Ce.c) x.c) (hst : (l.map Ce.c).Pairwise fun a b => a.id ≤ b.id) (hR : RdC h v l) (hX : RdL cD 2 h [] x.v x.c.sd) : FnT Tryz.prog 91 #[v, .agg #[.int .i64 x.c.id, .int .i64 x.c.dim, x.v]] h [] (fun r _ _ => r = .int .i64 (Dk (l.map Ce.c) x.c)) := by
 have o1 := hR.q.rd.one
 have o2 := hX.rd.one
 have hxn := K.n
 refine Av func91 ntmps91 rfl rfl (fun w0 hw0 => ?_)
 simp only [A5]
 refine Az ?_
 refine A8 [_, _, _] rfl rfl (by rfl) rfl rfl rfl (fun g3 => ?_)
 refine Qm rfl (An (AA fun h1 l1 hS => ?_))
 have hR := hR.up l1
 have hX := hX.up l1
 have hA := Seg.all hS
 refine Az (Qm rfl (BG (Qm rfl (BG (Qm rfl (BG (Qf Bl rfl (Ql rfl underlying57 (hA _ _ rfl _) (Qx (AC hX.rd.any rfl underlying57 rfl) rfl ?_)))))))))
 refine E0 (n := _) rfl underlying25 Bm rfl rfl rfl (by rfl) (by rfl) (by omega) (by omega) rfl rfl rfl (fun g23 => ?_)
 refine Qm rfl (BG ?_)
 refine AE [] [] [] rfl underlying25 Bm rfl (by omega) (by kernel_rfl) (by repeat (first | exact trivial | refine ⟨⟨by first | rfl | exact (hX.rd.any).cells | exact (hR.q.rd.any).cells | exact Rd.cells ‹_› | exact (RdL.rd ‹_›).cells, rfl, rfl⟩, ?_⟩)) rfl rfl rfl rfl (fun g24 => ?_)
 refine Qm rfl (An (Ac (Az (Qm rfl (An (Ah (Bz (Bz (Bz ?_)))))))))
 refine AD (fun q s hh ms' => ∃ (i : Nat) (v5 v6 v7 v8 v9 : Value) (m5 m6 m7 m8 m9 : Hp), q = x.c.sd.length - i ∧ s = [(0, v), (3, .pointer (some ⟨g3, 0, none⟩)), (5, v5), (6, v6), (7, v7), (8, v8), (9, v9), (10, .int .i64 i)] ∧ h1.le hh ∧ ms' = [m5, m6, m7, m9, m8] ∧ i ≤ x.c.sd.length ∧ Xf (Gf (l.map Ce.c) x.c i) v5 v6 v7 v8 v9 m5 m6 m7 m8 m9)
  (x.c.sd.length - 0) _ ⟨0, _, _, _, _, _, Hp.emp, Hp.emp, Hp.emp, _, _, rfl, rfl, Hp.le_refl _, rfl, by omega, ⟨OwnL.nil AT, OwnL.nil AT, OwnL.nil AT, OwnL.rep _ 0 (by omega), D0 g24 AT⟩⟩ Qs ?_
 rintro q s hh ms' ⟨i, v5, v6, v7, v8, v9, m5, m6, m7, m8, m9, rfl, rfl, lh, rfl, hi, W⟩
 have hR := hR.up lh
 have hX := hX.up lh
 have hA := Seg.all (hS.le lh)
 have KS := QQ K i hi
 refine Ac (Az (Qm rfl (Qf Bl rfl (Ql rfl underlying57 (hA _ _ rfl _) (Qx (AC hX.rd.any rfl underlying57 rfl) rfl (Qm rfl (An ?_)))))))
 refine Ax rfl (fun hlt => ?_) (fun hlt => ?_)
 ·have hil : i < x.c.sd.length := Ci hlt
  obtain ⟨k, hk⟩ : ∃ k : Nat, Im (l.map Ce.c) (Bc x.c i).1 = k := ⟨(Im (l.map Ce.c) (Bc x.c i).1).toNat, by have := K.at_ i hil; omega⟩
  have hkl : k < l.length := by have := JF (l.map Ce.c) (Bc x.c i).1; rw [hk, List.length_map] at this; omega
  have hy : Ez (l.map Ce.c) x.c i = l[k].c := by unfold Ez; rw [hk]; simp [List.getD, hkl]
  have hsi := A4 hil
  have hci : ∀ ms, Cell hh ms ((AI x.v).add (i * 2)) (.int .i64 x.c.sd[i].1) := fun ms => (hX.any (ms := ms)).cell0 hil rfl
  have hgk : ∀ ms, Seg hh ms ((AI v).add (k * 3)) (cC l[k]) := fun ms => (hR.q.any (ms := ms)).seg hkl
  have hY := hR.s _ (List.getElem_mem hkl)
  have oy := hY.rd.one
  have o5 : v5.oneCell' = true := (W.i.rd (h := hh) (ms := [m5]) (List.Mem.head _)).rd.one
  have o6 : v6.oneCell' = true := (W.s.rd (h := hh) (ms := [m6]) (List.Mem.head _)).rd.one
  have o7 : v7.oneCell' = true := (W.m.rd (h := hh) (ms := [m7]) (List.Mem.head _)).rd.one
  have o8 : v8.oneCell' = true := (W.p.rd (h := hh) (ms := [m8]) (List.Mem.head _)).rd.one
  have o9 : v9.oneCell' = true := (W.f.rd (h := hh) (ms := [m9]) (List.Mem.head _)).rd.one
  have hpl := KS.p
  have hk' : Im (l.map Ce.c) x.c.sd[i].1 = k := by rw [← hsi]; exact hk
  refine Ai (Ad (Ac (Ah (Az (Qm rfl (Qm rfl (Qm rfl (Qx (CH (i) (W.p.rd (h := hh) (ms := [m8]) (List.Mem.head _)).rd rfl underlying25 Bm rfl rfl (by omega) (by omega)) rfl (DQ 4 i W.p rfl Bm rfl rfl rfl (by omega) rfl rfl (fun m8 hO8 => ?_))))))))))
  have W1 : Xf ((Gf (l.map Ce.c) x.c i).start i) v5 v6 v7 v8 v9 m5 m6 m7 m8 m9 := ⟨W.i, W.s, W.m, hO8, W.f⟩
  have K1 := KS.start (i := i)
  refine BG (Qm rfl (Qm rfl (Qf Bl rfl (Ql rfl underlying57 (hA _ _ rfl _) (Qm rfl (Qx (Af (i) hX.rd.any rfl underlying57 AR rfl rfl (by omega) (by omega)) rfl (Qf Cc rfl (Ql rfl underlying3 (hci _) (Qx (AG rfl call44 rfl (XY hk' v hh hn hst hR.q _)) rfl (Qx (Af (k) hR.q.rd.any rfl underlying27 AH rfl rfl (by omega) (by omega)) rfl (Qx (oG rfl underlying59 AH (hgk _)) rfl (C4 [.int .i64 0, .int .i64 0, .slice none 0 0] rfl AH rfl rfl (fun g11 => ?_)))))))))))))
  refine Sa 0 [_, _, _] AH rfl (by simp [o1, o2, oy, o5, o6, o7, o8, o9]) ?_
  refine An (AA fun h2 l2 hS11 => ?_)
  have hX := hX.up l2
  have hY := hY.up l2
  have hA := Seg.all ((hS.le lh).le l2)
  have hA11 := Seg.all hS11
  have hyn : l[k].c.sd.length ≤ 64 := by have := K.yn i hil; rwa [hy] at this
  have hys : ∀ r ∈ l[k].c.sd, r.2 = 1 ∨ r.2 = -1 := by have := K.ys i hil; rwa [hy] at this
  have hsg := K.sg i hil
  have hstep : Gf (l.map Ce.c) x.c (i + 1) = ((Gf (l.map Ce.c) x.c i).start i).sides i (Bc x.c i).2 l[k].c.sd := by rw [← hy]; rfl
  obtain ⟨S0, hS0⟩ : ∃ S0, (Gf (l.map Ce.c) x.c i).start i = S0 := ⟨_, rfl⟩
  rw [hS0] at W1 K1 hstep
  refine Az (Qm rfl (An (Ah ?_)))
  refine AD (fun q s hh ms' => ∃ (j : Nat) (v5 v6 v7 v8 v9 : Value) (m5 m6 m7 m8 m9 : Hp), q = l[k].c.sd.length - j ∧ s = [(0, v), (3, .pointer (some ⟨g3, 0, none⟩)), (5, v5), (6, v6), (7, v7), (8, v8), (9, v9), (10, .int .i64 i), (11, .pointer (some ⟨g11, 0, none⟩)), (12, .int .i64 j)] ∧ h2 = hh ∧ ms' = [m5, m6, m7, m9, m8] ∧ j ≤ l[k].c.sd.length ∧ Xf (S0.sides i (Bc x.c i).2 (l[k].c.sd.take j)) v5 v6 v7 v8 v9 m5 m6 m7 m8 m9)
   (l[k].c.sd.length - 0) _ ⟨0, _, _, _, _, _, _, _, _, _, _, rfl, rfl, rfl, rfl, by omega, W1⟩ Qs ?_
  rintro q s hh' ms' ⟨j, v5, v6, v7, v8, v9, m5, m6, m7, m8, m9, rfl, rfl, rfl, rfl, hj, W⟩
  have hkj := S2.Ok.sides (i := i) hil hsg (l[k].c.sd.take j) S0 _ K1 (fun r hr => hys r (List.mem_of_mem_take hr))
  rw [List.length_take] at hkj
  refine Ac (Az (Qm rfl (Qf Bl rfl (Ql rfl underlying57 (hA11 _ _ rfl _) (Qx (AC hY.rd.any rfl underlying57 rfl) rfl (Qm rfl (An ?_)))))))
  refine Ax rfl (fun hlt2 => ?_) (fun hlt2 => ?_)
  ·have hjl : j < l[k].c.sd.length := Ci hlt2
   have hnext : S0.sides i (Bc x.c i).2 (l[k].c.sd.take (j + 1)) = (S0.sides i (Bc x.c i).2 (l[k].c.sd.take j)).side i (Bc x.c i).2 l[k].c.sd[j] := by rw [List.take_succ_eq_append_getElem hjl, S2.sides_snoc]
   obtain ⟨S, hSS⟩ : ∃ S, S0.sides i (Bc x.c i).2 (l[k].c.sd.take j) = S := ⟨_, rfl⟩
   obtain ⟨T, hT⟩ : ∃ T, 64 * i + min j l[k].c.sd.length = T := ⟨_, rfl⟩
   rw [hT] at hkj
   rw [hSS] at W hkj hnext
   have hT2 : T ≤ 4200 := by omega
   have hil2 := hkj.t
   have hc0 : ∀ ms, Cell h2 ms ((AI l[k].v).add (j * 2)) (.int .i64 l[k].c.sd[j].1) := fun ms => (hY.any (ms := ms)).cell0 hjl rfl
   have hc1 : ∀ ms, Cell h2 ms (((AI l[k].v).add (j * 2)).add 1) (.int .i64 l[k].c.sd[j].2) := fun ms => (hY.any (ms := ms)).cell hjl (f := 1) rfl
   have hcx : ∀ ms, Cell h2 ms (((AI x.v).add (i * 2)).add 1) (.int .i64 x.c.sd[i].2) := fun ms => (hX.any (ms := ms)).cell hil (f := 1) rfl
   have o5 : v5.oneCell' = true := (W.i.rd (h := h2) (ms := [m5]) (List.Mem.head _)).rd.one
   have o6 : v6.oneCell' = true := (W.s.rd (h := h2) (ms := [m6]) (List.Mem.head _)).rd.one
   have o7 : v7.oneCell' = true := (W.m.rd (h := h2) (ms := [m7]) (List.Mem.head _)).rd.one
   have o8 : v8.oneCell' = true := (W.p.rd (h := h2) (ms := [m8]) (List.Mem.head _)).rd.one
   have o9 : v9.oneCell' = true := (W.f.rd (h := h2) (ms := [m9]) (List.Mem.head _)).rd.one
   obtain ⟨r, hr⟩ : ∃ r, l[k].c.sd[j] = r := ⟨_, rfl⟩
   rw [hr] at hc0 hc1 hnext
   refine Ai (Ad ?_)
   refine AV (fun s h' ms' => ∃ (v5 v6 v7 v8 v9 : Value) (m5 m6 m7 m8 m9 : Hp), s = [(0, v), (3, .pointer (some ⟨g3, 0, none⟩)), (5, v5), (6, v6), (7, v7), (8, v8), (9, v9), (10, .int .i64 i), (11, .pointer (some ⟨g11, 0, none⟩)), (12, .int .i64 j)] ∧ h2 = h' ∧ ms' = [m5, m6, m7, m9, m8] ∧ Xf (S0.sides i (Bc x.c i).2 (l[k].c.sd.take (j + 1))) v5 v6 v7 v8 v9 m5 m6 m7 m8 m9) ?_ (fun s h ms hI => ?_)
   ·refine Ah (Az (Qm rfl (An ?_)))
    refine AV (fun s h' ms' => s = [(0, v), (3, .pointer (some ⟨g3, 0, none⟩)), (5, v5), (6, v6), (7, v7), (8, v8), (9, v9), (10, .int .i64 i), (11, .pointer (some ⟨g11, 0, none⟩)), (12, .int .i64 j), (13, .int .i64 (DJ S.ids r.1))] ∧ h2 = h' ∧ ms' = [m5, m6, m7, m9, m8]) ?_ (fun s h ms hI => ?_)
    ·have hri := W.i.rd (h := h2) (ms := [m5, m6, m7, m9, m8]) (List.Mem.head _)
     refine Ah ?_
     refine AD (fun q s h' ms' => ∃ (a : Nat), q = S.ids.length - a ∧ s = [(0, v), (3, .pointer (some ⟨g3, 0, none⟩)), (5, v5), (6, v6), (7, v7), (8, v8), (9, v9), (10, .int .i64 i), (11, .pointer (some ⟨g11, 0, none⟩)), (12, .int .i64 j), (13, .int .i64 a)] ∧ h2 = h' ∧ ms' = [m5, m6, m7, m9, m8] ∧ a ≤ S.ids.length ∧ ∀ b (hb : b < S.ids.length), b < a → S.ids[b] ≠ r.1)
      (S.ids.length - 0) _ ⟨0, rfl, rfl, rfl, rfl, by omega, fun b hb h => by omega⟩ Qs ?_
     rintro q s h' ms' ⟨a, rfl, rfl, rfl, rfl, ha, hno⟩
     refine Ac (Ac (Bb 15 CN (by kernel_rfl) rfl (Wm rfl (Wm rfl (AM (AC hri.rd rfl underlying25 rfl) rfl rfl (Wm rfl (Wm rfl ?_)))))))
     refine BV (t := 58) rfl (fun hs1 => ?_) (fun hs1 => ?_)
     ·have hal : a < S.ids.length := Ci hs1
      have hca : Cell h2 [m5, m6, m7, m9, m8] ((AI v5).add (a * 1)) (.int .i64 S.ids[a]) := hri.cell0 hal rfl
      refine AF (Au rfl rfl) rfl rfl rfl rfl (AF (Au rfl rfl) rfl rfl rfl rfl (AF (Af (a) hri.rd rfl underlying25 Bm rfl rfl (by omega) (by omega)) rfl rfl rfl rfl (AF (oL rfl underlying3 (hca)) rfl rfl rfl rfl (AF (oF Bl rfl) rfl rfl rfl rfl (AF (oL rfl underlying57 (hA11 _ _ rfl _)) rfl rfl rfl rfl (AF (Au rfl rfl) rfl rfl rfl rfl (AF (Af (j) hY.rd.any rfl underlying57 AR rfl rfl (by omega) (by omega)) rfl rfl rfl rfl (AF (oF Cc rfl) rfl rfl rfl rfl (AF (oL rfl underlying3 (hc0 _)) rfl rfl rfl rfl (AU (Qg (DP rfl rfl rfl) rfl (Qm rfl (An ?_)))))))))))))
      refine Ax rfl (fun hs2 => ?_) (fun hs2 => ?_)
      ·refine Ai (Ad (Ah (Ab (Qm rfl (Qx (oA rfl) rfl (Qm rfl (Ak (Aj ?_))))))))
       exact Am (S.ids.length - (a + 1)) _ (by omega) ⟨a + 1, rfl, rfl, rfl, rfl, by omega, fun b hb h => by
        rcases (by omega : b < a ∨ b = a) with h1 | rfl
        ·exact hno b hb h1
        ·exact hs2⟩ Qs
      ·have hf : DJ S.ids r.1 = a := Nq ha hno fun _ => Classical.byContradiction fun q => hs2 q
       refine Aw (Aa (Aa (Ag ?_)))
       rw [hf]
       exact Ay _ ⟨rfl, rfl, rfl⟩ Qs
     ·have hf : DJ S.ids r.1 = a := Nq ha hno fun h => absurd h (by omega)
      refine Ap rfl rfl rfl rfl rfl (Ap rfl rfl rfl rfl rfl (Ap rfl rfl rfl rfl rfl (Ap rfl rfl rfl rfl rfl (Ap rfl rfl rfl rfl rfl (Ap rfl rfl rfl rfl rfl (Ap rfl rfl rfl rfl rfl (Ap rfl rfl rfl rfl rfl (Ap rfl rfl rfl rfl rfl (Ap rfl rfl rfl rfl rfl (AU (Qk rfl (Qm rfl (An (AO rfl (Aw (Aa (Aa (Ag ?_))))))))))))))))))
      rw [hf]
      exact Ay _ ⟨rfl, rfl, rfl⟩ Qs
    ·obtain ⟨rfl, rfl, rfl⟩ := hI
     refine AV (fun s h' ms' => ∃ (v5 v6 v7 v8 v9 : Value) (m5 m6 m7 m8 m9 : Hp), s = [(0, v), (3, .pointer (some ⟨g3, 0, none⟩)), (5, v5), (6, v6), (7, v7), (8, v8), (9, v9), (10, .int .i64 i), (11, .pointer (some ⟨g11, 0, none⟩)), (12, .int .i64 j), (13, .int .i64 (DJ S.ids r.1))] ∧ h2 = h' ∧ ms' = [m5, m6, m7, m9, m8] ∧ Xf (S.add i r.1) v5 v6 v7 v8 v9 m5 m6 m7 m8 m9) ?_ (fun s h ms hI => ?_)
     ·refine Ac (Ab (Qm rfl (Qm rfl (Qx (AC (W.i.rd (h := h2) (ms := [m5, m6, m7, m9, m8]) (List.Mem.head _)).rd rfl underlying25 rfl) rfl (Qm rfl (An ?_))))))
      refine Ax rfl (fun hnew => ?_) (fun hnew => ?_)
      ·have hadd : S.add i r.1 = ⟨S.ids ++ [r.1], S.su ++ [0], S.ma ++ [0], S.fi ++ [(i : Int)], S.pa⟩ := by unfold S2.add; rw [if_pos (by omega)]
       have e1 := hkj.s
       have e2 := hkj.m
       have e3 := hkj.f
       refine Az (Qm rfl (Qf Bl rfl (Ql rfl underlying57 (hA11 _ _ rfl _) (Qm rfl (Qx (Af (j) hY.rd.any rfl underlying57 AR rfl rfl (by omega) (by omega)) rfl (Qf Cc rfl (Ql rfl underlying3 (hc0 _) ?_)))))))
       refine Ao [_] rfl underlying25 Bm rfl (by rfl) rfl rfl (by omega) rfl rfl rfl (fun g84 => ?_)
       refine AJ 1 W.i (RdL.one AT (x := r.1) (List.Mem.head _) rfl) rfl underlying25 Bm rfl (by omega) rfl rfl rfl BW (by (try simp only [List.length_singleton]); omega) (by (try simp only [List.length_singleton]); omega) rfl rfl rfl (fun w5 n5 hN5 => ?_)
       have p5 : w5.oneCell' = true := (hN5.rd (h := h2) (ms := [n5]) (List.Mem.head _)).rd.one
       refine Qm rfl (BG (Qm rfl ?_))
       refine Ao [_] rfl underlying25 Bm rfl (by rfl) rfl rfl (by omega) rfl rfl rfl (fun g87 => ?_)
       refine AJ 3 W.s (RdL.one AT (x := 0) (List.Mem.head _) rfl) rfl underlying25 Bm rfl (by omega) rfl rfl rfl BW (by (try simp only [List.length_singleton]); omega) (by (try simp only [List.length_singleton]); omega) rfl rfl rfl (fun w6 n6 hN6 => ?_)
       have p6 : w6.oneCell' = true := (hN6.rd (h := h2) (ms := [n6]) (List.Mem.head _)).rd.one
       refine Qm rfl (BG (Qm rfl ?_))
       refine Ao [_] rfl underlying25 Bm rfl (by rfl) rfl rfl (by omega) rfl rfl rfl (fun g90 => ?_)
       refine AJ 5 W.m (RdL.one AT (x := 0) (List.Mem.head _) rfl) rfl underlying25 Bm rfl (by omega) rfl rfl rfl BW (by (try simp only [List.length_singleton]); omega) (by (try simp only [List.length_singleton]); omega) rfl rfl rfl (fun w7 n7 hN7 => ?_)
       have p7 : w7.oneCell' = true := (hN7.rd (h := h2) (ms := [n7]) (List.Mem.head _)).rd.one
       refine Qm rfl (GZ (Qm rfl (Qm rfl ?_)))
       refine Ao [_] rfl underlying25 Bm rfl (by rfl) rfl rfl (by omega) rfl rfl rfl (fun g94 => ?_)
       refine AJ 7 W.f (RdL.one AT (x := (i : Int)) (List.Mem.head _) rfl) rfl underlying25 Bm rfl (by omega) rfl rfl rfl BW (by (try simp only [List.length_singleton]); omega) (by (try simp only [List.length_singleton]); omega) rfl rfl rfl (fun w9 n9 hN9 => ?_)
       have p9 : w9.oneCell' = true := (hN9.rd (h := h2) (ms := [n9]) (List.Mem.head _)).rd.one
       refine Qm rfl (Ak ?_)
       refine AS (AS (AS (AS ?_)))
       exact Ay _ ⟨w5, w6, w7, v8, w9, n5, n6, n7, m8, n9, rfl, rfl, rfl, by rw [hadd]; exact ⟨hN5, hN6, hN7, W.p, hN9⟩⟩ Qs
      ·have hadd : S.add i r.1 = S := by unfold S2.add; rw [if_neg (by omega)]
       refine Ai ?_
       exact Ay _ ⟨v5, v6, v7, v8, v9, m5, m6, m7, m8, m9, rfl, rfl, rfl, by rw [hadd]; exact W⟩ Qs
     ·obtain ⟨v5, v6, v7, v8, v9, m5, m6, m7, m8, m9, rfl, rfl, rfl, W⟩ := hI
      have hK2 := hkj.add hil r.1
      have hSU := S2.add_su hkj i r.1
      have hrm : r ∈ l[k].c.sd := by rw [← hr]; exact List.getElem_mem hjl
      have hw := MM hsg (hys r hrm)
      obtain ⟨kf, hkf⟩ : ∃ kf, DJ S.ids r.1 = kf := ⟨_, rfl⟩
      obtain ⟨U, hU⟩ : ∃ U, S.add i r.1 = U := ⟨_, rfl⟩
      have hres : S.side i (Bc x.c i).2 r = U.hit i kf ((Bc x.c i).2 * r.2) := by unfold S2.side; rw [hU, hkf]
      rw [hsi] at hw hres
      rw [hU] at W hK2 hSU
      rw [hkf] at hK2 ⊢
      rw [hsi] at hnext
      obtain ⟨KU, hkl2⟩ := hK2
      have hsl : kf < U.su.length := by rw [KU.s]; exact hkl2
      have hml : kf < U.ma.length := by rw [KU.m]; exact hkl2
      have hfl : kf < U.fi.length := by rw [KU.f]; exact hkl2
      have hsb := hSU.1 _ (List.getElem_mem hsl)
      have hmb := hSU.2 _ (List.getElem_mem hml)
      have hfb := KU.fb _ (List.getElem_mem hfl)
      obtain ⟨f, hf⟩ : ∃ f : Nat, U.fi[kf] = f := ⟨U.fi[kf].toNat, by omega⟩
      have hfp : f < U.pa.length := by rw [KU.p]; omega
      have hip : i < U.pa.length := by rw [KU.p]; exact hil
      have o5 : v5.oneCell' = true := (W.i.rd (h := h2) (ms := [m5]) (List.Mem.head _)).rd.one
      have o6 : v6.oneCell' = true := (W.s.rd (h := h2) (ms := [m6]) (List.Mem.head _)).rd.one
      have o7 : v7.oneCell' = true := (W.m.rd (h := h2) (ms := [m7]) (List.Mem.head _)).rd.one
      have o8 : v8.oneCell' = true := (W.p.rd (h := h2) (ms := [m8]) (List.Mem.head _)).rd.one
      have o9 : v9.oneCell' = true := (W.f.rd (h := h2) (ms := [m9]) (List.Mem.head _)).rd.one
      have c6 : ∀ ms, m6 ∈ ms → Cell h2 ms ((AI v6).add (kf * 1)) (.int .i64 U.su[kf]) := fun ms hm => (W.s.rd (h := h2) hm).cell0 hsl rfl
      have c7 : ∀ ms, m7 ∈ ms → Cell h2 ms ((AI v7).add (kf * 1)) (.int .i64 U.ma[kf]) := fun ms hm => (W.m.rd (h := h2) hm).cell0 hml rfl
      have c9 : ∀ ms, m9 ∈ ms → Cell h2 ms ((AI v9).add (kf * 1)) (.int .i64 f) := fun ms hm => by have := (W.f.rd (h := h2) hm).cell0 hfl rfl; rw [hf] at this; exact this
      have c8f : ∀ ms, m8 ∈ ms → Cell h2 ms ((AI v8).add (f * 1)) (.int .i64 U.pa[f]) := fun ms hm => (W.p.rd (h := h2) hm).cell0 hfp rfl
      have c8i : ∀ ms, m8 ∈ ms → Cell h2 ms ((AI v8).add (i * 1)) (.int .i64 U.pa[i]) := fun ms hm => (W.p.rd (h := h2) hm).cell0 hip rfl
      refine Ac (CS 19 [true, true] CN (by kernel_rfl) (by kernel_rfl) (by kernel_rfl) (Dq rfl rfl rfl rfl (BM rfl rfl) (Dq rfl rfl rfl rfl (BM rfl rfl) ?_)))
      refine ⟨rfl, ?_⟩
      simp only [DI, zap, List.cons_append, List.nil_append, List.take_succ_cons, List.take_zero, List.drop_succ_cons, List.drop_zero, List.take_nil, List.drop_nil]
      refine Dl rfl rfl rfl (Dl rfl rfl rfl (Wm rfl (Wm rfl (AM (CH (kf) (W.s.rd (h := h2) (ms := [m6]) (List.Mem.head _)).rd rfl underlying25 Bm rfl rfl (by omega) (by omega)) rfl rfl ?_))))
      refine Wl rfl underlying3 (c6 _ (by repeat (first | exact List.Mem.head _ | refine List.Mem.tail _ ?_))) ?_
      refine Wf Bl rfl (Wl rfl underlying57 (hA _ _ rfl _) (Wm rfl (AM (Af (i) hX.rd.any rfl underlying57 AR rfl rfl (by omega) (by omega)) rfl rfl (Wf Cv rfl (Wl rfl underlying3 (hcx _) (Wf Bl rfl (Wl rfl underlying57 (hA11 _ _ rfl _) (Wm rfl (AM (Af (j) hY.rd.any rfl underlying57 AR rfl rfl (by omega) (by omega)) rfl rfl (Wf Cv rfl (Wl rfl underlying3 (hc1 _) (AM (oM rfl) rfl rfl (AU (Qx (oA rfl) rfl (Qx (CH (kf) (W.s.rd (h := h2) (ms := [m6]) (List.Mem.head _)).rd rfl underlying25 Bm rfl rfl (by omega) (by omega)) rfl (DQ 1 kf W.s rfl Bm rfl rfl rfl hsl rfl rfl (fun n6 hN6 => Ak (Gj (Ad (Az (Qm rfl (Qm rfl (Qx (CH (kf) (W.m.rd (h := h2) (ms := [m7]) (List.Mem.head _)).rd rfl underlying25 Bm rfl rfl (by omega) (by omega)) rfl ?_)))))))))))))))))))))))
      refine Ql rfl underlying3 (c7 _ (by repeat (first | exact List.Mem.head _ | refine List.Mem.tail _ ?_))) ?_
      refine Qx (oA rfl) rfl (Qx (CH (kf) (W.m.rd (h := h2) (ms := [m7]) (List.Mem.head _)).rd rfl underlying25 Bm rfl rfl (by omega) (by omega)) rfl (DQ 2 kf W.m rfl Bm rfl rfl rfl hml rfl rfl (fun n7 hN7 => BG (Qm rfl (Qm rfl (Qm rfl (Qx (CH (kf) (W.f.rd (h := h2) (ms := [m9]) (List.Mem.head _)).rd rfl underlying25 Bm rfl rfl (by omega) (by omega)) rfl ?_)))))))
      refine Ql rfl underlying3 (c9 _ (by repeat (first | exact List.Mem.head _ | refine List.Mem.tail _ ?_))) ?_
      refine Qx (CH (f) (W.p.rd (h := h2) (ms := [m8]) (List.Mem.head _)).rd rfl underlying25 Bm rfl rfl (by omega) (by omega)) rfl ?_
      refine Ql rfl underlying3 (c8f _ (by repeat (first | exact List.Mem.head _ | refine List.Mem.tail _ ?_))) ?_
      refine Qm rfl (BG (Qm rfl (Qm rfl (Qx (CH (i) (W.p.rd (h := h2) (ms := [m8]) (List.Mem.head _)).rd rfl underlying25 Bm rfl rfl (by omega) (by omega)) rfl ?_))))
      refine Ql rfl underlying3 (c8i _ (by repeat (first | exact List.Mem.head _ | refine List.Mem.tail _ ?_))) ?_
      refine Qm rfl (BG (Qm rfl (An (Ah ?_))))
      refine AD (fun q s h' ms' => ∃ (a : Nat) (m8 : Hp), q = i + 1 - a ∧ s = [(0, v), (3, .pointer (some ⟨g3, 0, none⟩)), (5, v5), (6, v6), (7, v7), (8, v8), (9, v9), (10, .int .i64 i), (11, .pointer (some ⟨g11, 0, none⟩)), (12, .int .i64 j), (14, .int .i64 U.pa[f]), (15, .int .i64 U.pa[i]), (16, .int .i64 a)] ∧ h2 = h' ∧ ms' = [m5, n6, n7, m9, m8] ∧ a ≤ i + 1 ∧ OwnL cI 1 3 m8 v8 (Eu U.pa a U.pa[i] U.pa[f]))
       (i + 1 - 0) _ ⟨0, m8, rfl, rfl, rfl, rfl, by omega, by rw [QU]; exact W.p⟩ Qs ?_
      rintro q s h' ms' ⟨a, m8', rfl, rfl, rfl, rfl, ha, hO8⟩
      refine Ac (Az (Qm rfl (Qm rfl (Qm rfl (An ?_)))))
      refine Ax rfl (fun hla => ?_) (fun hla => ?_)
      ·have hap : a < U.pa.length := by omega
       have hal : a < (Eu U.pa a U.pa[i] U.pa[f]).length := by rw [CE]; exact hap
       have hga : (Eu U.pa a U.pa[i] U.pa[f])[a] = U.pa[a] := by rw [D1 hap, if_neg (fun q => absurd q.1 (Nat.lt_irrefl _))]
       have hca : Cell h2 [m5, n6, n7, m9, m8'] ((AI v8).add (a * 1)) (.int .i64 U.pa[a]) := by
        have := (hO8.rd (h := h2) (ms := [m5, n6, n7, m9, m8']) (by repeat (first | exact List.Mem.head _ | refine List.Mem.tail _ ?_))).cell0 hal rfl
        rw [hga] at this; exact this
       refine Ai (Ad (Ac (Ah (Az (Qm rfl (Qm rfl (Qx (CH (a) (hO8.rd (h := h2) (ms := [m8']) (List.Mem.head _)).rd rfl underlying25 Bm rfl rfl (by omega) (by omega)) rfl (Ql rfl underlying3 (hca) (Qm rfl (Qm rfl (An ?_)))))))))))
       refine Ax rfl (fun hq => ?_) (fun hq => ?_)
       ·refine Ab (Qm rfl (Qm rfl (Qm rfl (Qx (CH (a) (hO8.rd (h := h2) (ms := [m8']) (List.Mem.head _)).rd rfl underlying25 Bm rfl rfl (by omega) (by omega)) rfl (DQ 4 a hO8 rfl Bm rfl rfl rfl hal rfl rfl (fun n8 hN8 => ?_))))))
        rw [Uj hap hq] at hN8
        refine Ak (Aj (Ad (Ab (Qm rfl (Qx (oA rfl) rfl (Qm rfl (Ak ?_)))))))
        exact Am (i + 1 - (a + 1)) _ (by omega) ⟨a + 1, n8, rfl, rfl, rfl, rfl, by omega, hN8⟩ Qs
       ·rw [UY hap hq] at hO8
        refine Ai (Aj (Ad (Ab (Qm rfl (Qx (oA rfl) rfl (Qm rfl (Ak ?_)))))))
        exact Am (i + 1 - (a + 1)) _ (by omega) ⟨a + 1, m8', rfl, rfl, rfl, rfl, by omega, hO8⟩ Qs
      ·obtain rfl : a = i + 1 := by omega
       have g6 : U.su.getD kf 0 = U.su[kf] := by simp [List.getD, hsl]
       have g7 : U.ma.getD kf 0 = U.ma[kf] := by simp [List.getD, hml]
       have g9 : (U.fi.getD kf 0).toNat = f := by rw [show U.fi.getD kf 0 = U.fi[kf] by simp [List.getD, hfl], hf]; rfl
       have g8 : U.pa.getD f 0 = U.pa[f] := by simp [List.getD, hfp]
       have g8' : U.pa.getD i 0 = U.pa[i] := by simp [List.getD, hip]
       have hH : U.hit i kf (x.c.sd[i].2 * r.2) = ⟨U.ids, U.su.set kf (U.su[kf] + x.c.sd[i].2 * r.2), U.ma.set kf (U.ma[kf] + 1), U.fi, Eu U.pa (i + 1) U.pa[i] U.pa[f]⟩ := by unfold S2.hit; rw [g6, g7, g9, g8, g8']
       have hWn : Xf (S0.sides i (Bc x.c i).2 (l[k].c.sd.take (j + 1))) v5 v6 v7 v8 v9 m5 n6 n7 m8' m9 := by rw [hsi, hnext, hres, hH]; exact ⟨W.i, hN6, hN7, hO8, W.f⟩
       refine Aw (Aa (Aa (Ag (Aj ?_))))
       exact Ay _ ⟨v5, v6, v7, v8, v9, m5, n6, n7, m8', m9, rfl, rfl, rfl, hWn⟩ Qs
   ·obtain ⟨v5, v6, v7, v8, v9, m5, m6, m7, m8, m9, rfl, rfl, rfl, W⟩ := hI
    refine Ab (Qm rfl (Qx (oA rfl) rfl (Qm rfl (Ak ?_))))
    exact Am (l[k].c.sd.length - (j + 1)) _ (by omega) ⟨j + 1, v5, v6, v7, v8, v9, m5, m6, m7, m8, m9, rfl, rfl, rfl, rfl, by omega, W⟩ Qs
  ·have hje : j = l[k].c.sd.length := by omega
   rw [hje, List.take_length, ← hstep] at W
   refine Aw (Aa (Aa (Ag (Aj (Ad (Ab (Qm rfl (Qx (oA rfl) rfl (Qm rfl (Ak ?_))))))))))
   exact Am (x.c.sd.length - (i + 1)) _ (by omega) ⟨i + 1, v5, v6, v7, v8, v9, m5, m6, m7, m8, m9, rfl, rfl, Hp.le_trans lh l2, rfl, by omega, W⟩ Qs
 ·obtain rfl : i = x.c.sd.length := by omega
  obtain ⟨S, hS⟩ : ∃ S, Gf (l.map Ce.c) x.c x.c.sd.length = S := ⟨_, rfl⟩
  have hsec : Dk (l.map Ce.c) x.c = (if ¬ ∀ y ∈ S.su, y = 0 then 24 else if ¬ ∀ y ∈ S.ma, y = 2 then 25 else if ¬ ∀ y ∈ S.pa, y = S.pa.getD 0 0 then 25 else 0) := by unfold Dk; rw [hS]
  rw [hS] at W KS
  have r6 := W.s.rd (h := hh) (ms := [m5, m6, m7, m9, m8]) (by repeat (first | exact List.Mem.head _ | refine List.Mem.tail _ ?_))
  have r7 := W.m.rd (h := hh) (ms := [m5, m6, m7, m9, m8]) (by repeat (first | exact List.Mem.head _ | refine List.Mem.tail _ ?_))
  have r8 := W.p.rd (h := hh) (ms := [m5, m6, m7, m9, m8]) (by repeat (first | exact List.Mem.head _ | refine List.Mem.tail _ ?_))
  clear hlt hi hR hX hA
  refine Aw (Aa (Aa (Ag (Ad (Ac (Az (Qm rfl (An (Ah ?_)))))))))
  refine AD (fun q s h' ms' => ∃ (a : Nat), q = S.su.length - a ∧ s = [(6, v6), (7, v7), (8, v8), (17, .int .i64 a)] ∧ hh = h' ∧ ms' = [m5, m6, m7, m9, m8] ∧ a ≤ S.su.length ∧ ∀ b (hb : b < S.su.length), b < a → S.su[b] = 0)
   (S.su.length - 0) _ ⟨0, rfl, rfl, rfl, rfl, by omega, fun b hb h => by omega⟩ Qs ?_
  rintro q s h' ms' ⟨a, rfl, rfl, rfl, rfl, ha, hno⟩
  have r6l := r6.len_le
  refine Ac (Az (Qm rfl (Qm rfl (Qx (AC r6.rd rfl underlying25 rfl) rfl (Qm rfl (An ?_))))))
  refine Ax rfl (fun hl6 => ?_) (fun hl6 => ?_)
  ·have hal : a < S.su.length := Ci hl6
   have hca := r6.cell0 hal rfl
   refine Ai (Ad (Ac (Ah (Az (Qm rfl (Qm rfl (Qx (Af (a) r6.rd rfl underlying25 Bm rfl rfl (by omega) (by omega)) rfl (Ql rfl underlying3 (hca) (Qm rfl (An ?_))))))))))
   refine Ax rfl (fun hq => ?_) (fun hq => ?_)
   ·refine Ac (Ab (Qm rfl (An (Aq (Al (Ae (Ae (Al (Ae ?_)))))))))
    exact As rfl rfl (by rw [hsec, if_pos (fun q => hq (q _ (List.getElem_mem hal)))])
   ·have hq : S.su[a] = 0 := Classical.byContradiction fun q => hq q
    refine Ai (Aj (Ad (Ab (Qm rfl (Qx (oA rfl) rfl (Qm rfl (Ak ?_)))))))
    exact Am (S.su.length - (a + 1)) _ (by omega) ⟨a + 1, rfl, rfl, rfl, rfl, by omega, fun b hb h => by
     rcases (by omega : b < a ∨ b = a) with h1 | rfl
     ·exact hno b hb h1
     ·exact hq⟩ Qs
  ·have BQ : ∀ y ∈ S.su, y = 0 := fun y hy => by
    obtain ⟨b, hb, rfl⟩ := List.mem_iff_getElem.1 hy
    exact hno b hb (by omega)
   rw [if_neg (fun q => q BQ)] at hsec
   clear hno hl6 ha
   refine Aw (Aa (Aa (Ag (Ad (Ac (Az (Qm rfl (An (Ah ?_)))))))))
   refine AD (fun q s h' ms' => ∃ (a : Nat), q = S.ma.length - a ∧ s = [(7, v7), (8, v8), (18, .int .i64 a)] ∧ hh = h' ∧ ms' = [m5, m6, m7, m9, m8] ∧ a ≤ S.ma.length ∧ ∀ b (hb : b < S.ma.length), b < a → S.ma[b] = 2)
    (S.ma.length - 0) _ ⟨0, rfl, rfl, rfl, rfl, by omega, fun b hb h => by omega⟩ Qs ?_
   rintro q s h' ms' ⟨a, rfl, rfl, rfl, rfl, ha, hno⟩
   have r7l := r7.len_le
   refine Ac (Az (Qm rfl (Qm rfl (Qx (AC r7.rd rfl underlying25 rfl) rfl (Qm rfl (An ?_))))))
   refine Ax rfl (fun hl7 => ?_) (fun hl7 => ?_)
   ·have hal : a < S.ma.length := Ci hl7
    have hca := r7.cell0 hal rfl
    refine Ai (Ad (Ac (Ah (Az (Qm rfl (Qm rfl (Qx (Af (a) r7.rd rfl underlying25 Bm rfl rfl (by omega) (by omega)) rfl (Ql rfl underlying3 (hca) (Qm rfl (An ?_))))))))))
    refine Ax rfl (fun hq => ?_) (fun hq => ?_)
    ·refine Ac (Ab (Qm rfl (An (Aq (Al (Ae (Ae (Al (Ae ?_)))))))))
     exact As rfl rfl (by rw [hsec, if_pos (fun q => hq (q _ (List.getElem_mem hal)))])
    ·have hq : S.ma[a] = 2 := Classical.byContradiction fun q => hq q
     refine Ai (Aj (Ad (Ab (Qm rfl (Qx (oA rfl) rfl (Qm rfl (Ak ?_)))))))
     exact Am (S.ma.length - (a + 1)) _ (by omega) ⟨a + 1, rfl, rfl, rfl, rfl, by omega, fun b hb h => by
      rcases (by omega : b < a ∨ b = a) with h1 | rfl
      ·exact hno b hb h1
      ·exact hq⟩ Qs
   ·have hall2 : ∀ y ∈ S.ma, y = 2 := fun y hy => by
     obtain ⟨b, hb, rfl⟩ := List.mem_iff_getElem.1 hy
     exact hno b hb (by omega)
    rw [if_neg (fun q => q hall2)] at hsec
    clear hno hl7 ha
    refine Aw (Aa (Aa (Ag (Ad (Ac (Az (Qm rfl (An (Ah ?_)))))))))
    refine AD (fun q s h' ms' => ∃ (a : Nat), q = S.pa.length - a ∧ s = [(8, v8), (19, .int .i64 a)] ∧ hh = h' ∧ ms' = [m5, m6, m7, m9, m8] ∧ a ≤ S.pa.length ∧ ∀ b (hb : b < S.pa.length), b < a → S.pa[b] = S.pa.getD 0 0)
     (S.pa.length - 0) _ ⟨0, rfl, rfl, rfl, rfl, by omega, fun b hb h => by omega⟩ Qs ?_
    rintro q s h' ms' ⟨a, rfl, rfl, rfl, rfl, ha, hno⟩
    have r8l := r8.len_le
    refine Ac (Az (Qm rfl (Qm rfl (Qx (AC r8.rd rfl underlying25 rfl) rfl (Qm rfl (An ?_))))))
    refine Ax rfl (fun hl8 => ?_) (fun hl8 => ?_)
    ·have hal : a < S.pa.length := Ci hl8
     have h0l : 0 < S.pa.length := by omega
     have g0 : S.pa.getD 0 0 = S.pa[0] := by simp [List.getD, h0l]
     have hca := r8.cell0 hal rfl
     have hc0 := r8.cell0 h0l rfl
     refine Ai (Ad (Ac (Ah (Ac (Bb 7 CN (by kernel_rfl) rfl (Wm rfl (Wm rfl (AM (Af (a) r8.rd rfl underlying25 Bm rfl rfl (by omega) (by omega)) rfl rfl (Wl rfl underlying3 (hca) (Wm rfl (AM (Af (0) r8.rd rfl underlying25 Bm rfl rfl (by omega) (by omega)) rfl rfl (Wl rfl underlying3 (hc0) (AU (Qm rfl (An ?_)))))))))))))))
     refine Ax rfl (fun hq => ?_) (fun hq => ?_)
     ·refine Ac (Ab (Qm rfl (An (Aq (Al (Ae (Ae (Al (Ae ?_)))))))))
      exact As rfl rfl (by rw [hsec, if_pos (fun q => hq (by rw [← g0]; exact q _ (List.getElem_mem hal)))])
     ·have hq : S.pa[a] = S.pa.getD 0 0 := by rw [g0]; exact Classical.byContradiction fun q => hq q
      refine Ai (Aj (Ad (Ab (Qm rfl (Qx (oA rfl) rfl (Qm rfl (Ak ?_)))))))
      exact Am (S.pa.length - (a + 1)) _ (by omega) ⟨a + 1, rfl, rfl, rfl, rfl, by omega, fun b hb h => by
       rcases (by omega : b < a ∨ b = a) with h1 | rfl
       ·exact hno b hb h1
       ·exact hq⟩ Qs
    ·have hall3 : ∀ y ∈ S.pa, y = S.pa.getD 0 0 := fun y hy => by
      obtain ⟨b, hb, rfl⟩ := List.mem_iff_getElem.1 hy
      exact hno b hb (by omega)
     rw [if_neg (fun q => q hall3)] at hsec
     refine Aw (Aa (Aa (Ag (Ad (Az (Qm rfl (An (Aq ?_))))))))
     exact As rfl rfl (by rw [hsec])
variable {l : List Cl}
def GM (o own : List Cl) (i : Nat) : Option (Int × Int) :=
 if (o.getD i default).id < 1 ∨ (0 < i ∧ (o.getD i default).id = (o.getD (i - 1) default).id) then some ((o.getD i default).id, 20)
 else if BR own (o.getD i default) ≠ 0 then some ((o.getD i default).id, BR own (o.getD i default)) else none
def IF (o : List Cl) (i : Nat) : Option (Int × Int) :=
 if (o.getD i default).dim < 2 then none
 else if Dk o (o.getD i default) ≠ 0 then some ((o.getD i default).id, Dk o (o.getD i default)) else none
def CW (l : List Cl) : Int × Int := if 4000 < l.length then (0, 2) else
 ((List.range l.length).findSome? (GM (ordF l) (DT l))).getD (((List.range l.length).findSome? (IF (ordF l))).getD (0, 0))
theorem B9 {β : Type} {e : Nat → Option β} : ∀ n, (∀ b, b < n → e b = none) → (List.range n).findSome? e = none
 | 0, _ => rfl
 | n + 1, h => by
  rw [List.range_succ, List.findSome?_append, B9 n fun b hb => h b (by omega)]
  simp [h n (by omega)]
theorem CY {β : Type} {e : Nat → Option β} {a : Nat} {x : β} (h : ∀ b, b < a → e b = none) (hx : e a = some x) : ∀ n, a < n → (List.range n).findSome? e = some x
 | 0, ha => by omega
 | n + 1, ha => by
  rw [List.range_succ, List.findSome?_append]
  rcases (by omega : a < n ∨ a = n) with h1 | rfl
  ·rw [CY h hx n h1]; rfl
  ·rw [B9 a h]; simp [hx]
theorem Mo : ∀ (l : List Cl) (p : Option Int), (uq p l).Sublist l
 | [], _ => List.Sublist.refl _
 | a :: l, p => by
  unfold uq
  split
  ·exact (Mo l _).cons a
  ·exact (Mo l _).cons_cons a
theorem KC (l : List Cl) : (DT l).Pairwise fun a b => a.id ≤ b.id := (Dv l.length l (Nat.le_refl _)).sublist (Mo _ _)
theorem Hf (l : List Cl) : (DT l).length ≤ l.length := by
 have := (Mo (ordF l) none).length_le
 rwa [F2] at this
theorem Pn : ∀ (l : List Cl) (p : Option Int), (∀ h : 0 < l.length, p ≠ some l[0].id) → (∀ i (hi : i + 1 < l.length), l[i].id ≠ l[i + 1].id) → uq p l = l
 | [], _, _, _ => rfl
 | a :: l, p, h0, h => by
  unfold uq
  rw [if_neg (show p ≠ some a.id from h0 (by simp)), Pn l _ (fun hl => by
   have := h 0 (by simp; omega)
   simpa using this) (fun i hi => by
   have := h (i + 1) (by simp; omega)
   simpa using this)]
theorem D3 {x : Cl} (h : BR l x = 0) : (0 ≤ x.dim ∧ x.dim ≤ 8) ∧ x.sd.length ≤ 64 ∧ (∀ i, i < x.sd.length → ¬ B6 l x i) ∧ ∀ i, i < x.sd.length → ¬ Bw x i := by
 unfold BR at h
 split at h
 ·omega
 ·rename_i h1
  split at h
  ·omega
  ·rename_i h2
   split at h
   ·omega
   ·rename_i h3
    split at h
    ·omega
    ·rename_i h4
     refine ⟨by omega, ?_, Classical.not_not.1 h3, Classical.not_not.1 h4⟩
     unfold BD at h2; omega
theorem Gc {i : Nat} (hi : i < l.length) : l.getD i default = l[i] := by simp [List.getD, hi]
theorem UJ (h : ∀ b, b < (ordF l).length → GM (ordF l) (DT l) b = none) {i : Nat} (hi : i < (ordF l).length) : P0 (ordF l) (ordF l)[i] := by
 have hn : ∀ b (hb : b < (ordF l).length), (1 ≤ (ordF l)[b].id ∧ ¬ (0 < b ∧ (ordF l)[b].id = ((ordF l).getD (b - 1) default).id)) ∧ BR (DT l) (ordF l)[b] = 0 := fun b hb => by
  have := h b hb
  unfold GM at this
  rw [Gc hb] at this
  split at this
  ·cases this
  ·rename_i h1
   split at this
   ·cases this
   ·rename_i h2
    exact ⟨⟨by omega, fun q => h1 (.inr q)⟩, Classical.not_not.1 h2⟩
 have heq : DT l = ordF l := Pn _ _ (fun _ => nofun) fun b hb q => by
  have h1 := (hn (b + 1) hb).1.2
  refine h1 ⟨by omega, ?_⟩
  rw [show b + 1 - 1 = b by omega, Gc (show b < (ordF l).length by omega)]; exact q.symm
 rw [heq] at hn
 have hx := D3 (hn i hi).2
 have hsg : ∀ b (hb : b < (ordF l).length), ∀ j, j < (ordF l)[b].sd.length → (Bc (ordF l)[b] j).2 = 1 ∨ (Bc (ordF l)[b] j).2 = -1 := fun b hb j hj => by
  have := (D3 (hn b hb).2).2.2.2 j hj
  unfold Bw at this; omega
 have hat : ∀ j, j < (ordF l)[i].sd.length → 0 ≤ Im (ordF l) (Bc (ordF l)[i] j).1 := fun j hj => by
  have := hx.2.2.1 j hj
  unfold B6 at this; omega
 have hy : ∀ j, j < (ordF l)[i].sd.length → ∃ b, ∃ hb : b < (ordF l).length, Ez (ordF l) (ordF l)[i] j = (ordF l)[b] := fun j hj => by
  have h1 := hat j hj
  have h2 := JF (ordF l) (Bc (ordF l)[i] j).1
  exact ⟨_, by omega, Gc (by omega)⟩
 refine ⟨hx.2.1, hsg i hi, hat, fun j hj => ?_, fun j hj r hr => ?_⟩
 ·obtain ⟨b, hb, e⟩ := hy j hj
  rw [e]; exact (D3 (hn b hb).2).2.1
 ·obtain ⟨b, hb, e⟩ := hy j hj
  rw [e] at hr
  obtain ⟨k, hk, rfl⟩ := List.mem_iff_getElem.1 hr
  have := hsg b hb k hk
  rwa [A4 hk] at this
structure MP (l : List Ce) : Prop extends CsOk l where
 d : ∀ a ∈ l, -9223372036854775807 ≤ a.c.dim ∧ a.c.dim ≤ 9223372036854775807
theorem EN {c : Cl} (h : c ∈ ordF l) : ∃ a ∈ l, c = a.can := by
 have := (Eo l.length l (Nat.le_refl _)).mem_iff.1 h
 obtain ⟨a, ha, e⟩ := List.mem_map.1 this
 exact ⟨a, ha, e.symm⟩
theorem OM (l : List Ce) (v : Value) (h : Hp) (hK : MP l) (hR : RdC h v l) : FnT Tryz.prog 62 #[.agg #[v]] h [] (fun r _ _ => r = .tuple #[.int .i64 (CW (l.map Ce.c)).1, .int .i64 (CW (l.map Ce.c)).2]) := by
 have o1 := hR.q.rd.one
 have hn := hK.n
 refine Av func62 ntmps62 rfl rfl (fun w0 hw0 => ?_)
 simp only [A5]
 refine Az ?_
 refine A8 [_] rfl rfl (by rfl) rfl rfl rfl (fun g1 => ?_)
 refine Qm rfl (Qm rfl (An (AA fun h1 l1 hS => ?_)))
 have hR := hR.up l1
 have hA0 := Seg.all hS 0 _ rfl
 refine Ac (Az (Qf BX rfl (Ql rfl underlying27 (hA0 _) (Qx (AC hR.q.rd.any rfl underlying27 rfl) rfl (Qm rfl (An ?_))))))
 refine Ax rfl (fun hbig => ?_) (fun hbig => ?_)
 ·refine Ac (Ab (Qm rfl (Qm rfl (An (Aq (Ae ?_))))))
  exact BH rfl rfl rfl (by unfold CW; rw [if_pos (by rw [List.length_map]; omega)])
 ·have hck : CW (l.map Ce.c) = ((List.range l.length).findSome? (GM (ordF (l.map Ce.c)) (DT (l.map Ce.c)))).getD (((List.range l.length).findSome? (IF (ordF (l.map Ce.c)))).getD (0, 0)) := by unfold CW; rw [if_neg (by rw [List.length_map]; omega), List.length_map]
  refine Ai (Ad (Az (Qf BX rfl (Ql rfl underlying27 (hA0 _) (Qc call63 rfl (G3 (l.length + 1) l v h1 (by omega) (by omega) hK.s hR) (fun ro h2 ms2 l2 hF => ?_))))))
  obtain ⟨l2', mo, O, rfl, hOO, hO, hOs⟩ := hF
  refine A7 hOO fun h3 l3 hRO => ?_
  have l13 := Hp.le_trans l2 l3
  have hR := hR.up l13
  have hS := hS.le l13
  have oro := hRO.rd.one
  refine Qm rfl (BG (Qx (oG rfl underlying29 Bi (Seg.any hS)) rfl (Qc call43 rfl (JQ l v h3 hK.toCsOk hR) (fun rw_ h4 ms4 l4 hF => ?_))))
  obtain ⟨l4', mw, W, rfl, hOW, hW, hWs⟩ := hF
  refine A7 hOW fun h5 l5 hRW => ?_
  have l35 := Hp.le_trans l4 l5
  have hRC : RdC h5 ro O := ⟨hRO.up l35, fun a ha => (hOs a ha).up (Hp.le_trans l3 l35)⟩
  have orw := hRW.rd.one
  have lO : O.length = l.length := by have := congrArg List.length hO; rwa [List.length_map, F2, List.length_map] at this
  have lW : W.length ≤ 100000 := by have := congrArg List.length hW; rw [List.length_map] at this; have := Hf (l.map Ce.c); rw [List.length_map] at this; omega
  have hOm : ∀ a ∈ O, a.c.sd.length ≤ 100000 ∧ -9223372036854775807 ≤ a.c.dim ∧ a.c.dim ≤ 9223372036854775807 := fun a ha => by
   have h1 : a.c ∈ ordF (l.map Ce.c) := by rw [← hO]; exact List.mem_map_of_mem ha
   obtain ⟨c, hc, e⟩ := EN h1
   obtain ⟨b, hb, rfl⟩ := List.mem_map.1 hc
   rw [e]
   exact ⟨by show (Cp _).length ≤ _; rw [FE]; exact hK.s b hb, hK.d b hb⟩
  have hWst : (W.map Ce.c).Pairwise fun a b => a.id ≤ b.id := by rw [hW]; exact KC _
  have hOst : (O.map Ce.c).Pairwise fun a b => a.id ≤ b.id := by rw [hO]; exact Dv _ _ (Nat.le_refl _)
  have hget : ∀ i (hi : i < O.length), (ordF (l.map Ce.c)).getD i default = O[i].c := fun i hi => by rw [← hO, Gc (by rw [List.length_map]; exact hi), List.getElem_map]
  have lord : (ordF (l.map Ce.c)).length = O.length := by rw [← hO, List.length_map]
  obtain ⟨o, ho⟩ : ∃ o, ordF (l.map Ce.c) = o := ⟨_, rfl⟩
  obtain ⟨w, hw⟩ : ∃ w, DT (l.map Ce.c) = w := ⟨_, rfl⟩
  rw [ho, hw, ← lO] at hck
  rw [ho] at hget lord
  have hsec : (∀ b, b < O.length → GM o w b = none) → ∀ i (hi : i < O.length), P0 o O[i].c := fun h i hi => by
   have := UJ (l := l.map Ce.c) (by rw [ho, hw, lord]; exact h) (i := i) (by rw [ho, lord]; exact hi)
   have e : (ordF (l.map Ce.c))[i]'(by rw [ho, lord]; exact hi) = O[i].c := by rw [← hget i hi]; subst ho; exact (Gc _).symm
   rwa [e, ho] at this
  rw [hw] at hW
  rw [ho] at hO
  refine Qm rfl (An (Ac (Az (Qm rfl (An (Ah ?_))))))
  refine AD (fun q s h' ms' => ∃ (i : Nat), q = O.length - i ∧ s = [(4, ro), (5, rw_), (6, .int .i64 i)] ∧ h5 = h' ∧ ms' = [] ∧ i ≤ O.length ∧ ∀ b, b < i → GM o w b = none)
   (O.length - 0) _ ⟨0, rfl, rfl, rfl, rfl, by omega, fun b hb => by omega⟩ Qs ?_
  rintro q s h' ms' ⟨i, rfl, rfl, rfl, rfl, hi, hno⟩
  refine Ac (Az (Qm rfl (Qm rfl (Qx (AC hRC.q.rd.any rfl underlying27 rfl) rfl (Qm rfl (An ?_))))))
  refine Ax rfl (fun hlt => ?_) (fun hlt => ?_)
  ·have hil : i < O.length := Ci hlt
   have gi := hget i hil
   have hci : ∀ ms, Cell h5 ms ((AI ro).add (i * 3)) (.int .i64 O[i].c.id) := fun ms => (hRC.q.any (ms := ms)).cell0 hil rfl
   have hgi : ∀ ms, Seg h5 ms ((AI ro).add (i * 3)) (cC O[i]) := fun ms => (hRC.q.any (ms := ms)).seg hil
   have oiv := (hRC.s _ (List.getElem_mem hil)).rd.one
   have hret : ∀ p, GM o w i = some p → CW (l.map Ce.c) = p := fun p hp => by rw [hck, CY hno hp _ hil]; rfl
   have hround : GM o w i = none → ∀ b, b < i + 1 → GM o w b = none := fun h b hb => by
    rcases (by omega : b < i ∨ b = i) with h1 | rfl
    ·exact hno b h1
    ·exact h
   obtain ⟨hm1, hm2⟩ := hOm _ (List.getElem_mem hil)
   refine Ai (Ad (Ac (Ah ?_)))
   refine AV (fun s h' ms' => s = [(4, ro), (5, rw_), (6, .int .i64 i)] ∧ h5 = h' ∧ ms' = [] ∧ ¬ (O[i].c.id < 1 ∨ (0 < i ∧ O[i].c.id = (o.getD (i - 1) default).id))) ?_ (fun s h ms hI => ?_)
   ·refine Ac (Bb 21 CN (by kernel_rfl) rfl (Wm rfl (Wm rfl (AM (Af (i) hRC.q.rd.any rfl underlying27 AH rfl rfl (by omega) (by omega)) rfl rfl (Wf Bo rfl (Wl rfl underlying3 (hci _) (Wm rfl (Wm rfl ?_))))))))
    refine BV (t := 31) rfl (fun g1 => ?_) (fun g1 => ?_)
    ·refine Ap rfl rfl rfl rfl rfl (Ap rfl rfl rfl rfl rfl (Ap rfl rfl rfl rfl rfl (AL rfl rfl rfl rfl (AL rfl rfl rfl rfl (AL rfl rfl rfl rfl (AL rfl rfl rfl rfl (AL rfl rfl rfl rfl (AL rfl rfl rfl rfl (AL rfl rfl rfl rfl (AL rfl rfl rfl rfl (AL rfl rfl rfl rfl (AL rfl rfl rfl rfl (AL rfl rfl rfl rfl (AU (AP rfl rfl rfl rfl rfl rfl (Qk rfl (Qm rfl (An (Bk rfl (Az (Qm rfl (Qm rfl (Qx (Af (i) hRC.q.rd.any rfl underlying27 AH rfl rfl (by omega) (by omega)) rfl (Qf Bo rfl (Ql rfl underlying3 (hci _) (Qm rfl (Qm rfl (An (Aq (Ae (Al (Ae (Ae (Al (Ae ?_)))))))))))))))))))))))))))))))))))
     exact BH rfl rfl rfl (by rw [hret (O[i].c.id, 20) (by unfold GM; rw [gi, if_pos (.inl g1)])])
    ·refine AF (Au rfl rfl) rfl rfl rfl rfl (AF (BY rfl rfl rfl) rfl rfl rfl rfl (AF (Au rfl rfl) rfl rfl rfl rfl ?_))
     refine BV (t := 34) rfl (fun g2 => ?_) (fun g2 => ?_)
     ·have hip : i - 1 < O.length := by omega
      have gp := hget (i - 1) hip
      have hcp : ∀ ms, Cell h5 ms ((AI ro).add ((i - 1) * 3)) (.int .i64 O[i - 1].c.id) := fun ms => (hRC.q.any (ms := ms)).cell0 hip rfl
      refine AF (Au rfl rfl) rfl rfl rfl rfl (AF (Au rfl rfl) rfl rfl rfl rfl (AF (Af (i) hRC.q.rd.any rfl underlying27 AH rfl rfl (by omega) (by omega)) rfl rfl rfl rfl (AF (oF Bo rfl) rfl rfl rfl rfl (AF (oL rfl underlying3 (hci _)) rfl rfl rfl rfl (AF (Au rfl rfl) rfl rfl rfl rfl (AF (Au rfl rfl) rfl rfl rfl rfl (AF (oS rfl) rfl rfl rfl rfl (AF (Af (i - 1) hRC.q.rd.any rfl underlying27 AH rfl rfl (by omega) (by omega)) rfl rfl rfl rfl (AF (oF Bo rfl) rfl rfl rfl rfl (AF (oL rfl underlying3 (hcp _)) rfl rfl rfl rfl (AU (Qg (DD rfl rfl rfl) rfl (Qg (B8 rfl rfl rfl) rfl (Qm rfl (An ?_)))))))))))))))
      refine Ax rfl (fun g3 => ?_) (fun g3 => ?_)
      ·refine Ac (Ab (Qm rfl (Qm rfl (Qx (Af (i) hRC.q.rd.any rfl underlying27 AH rfl rfl (by omega) (by omega)) rfl (Qf Bo rfl (Ql rfl underlying3 (hci _) (Qm rfl (Qm rfl (An (Aq (Ae (Al (Ae (Ae (Al (Ae ?_))))))))))))))))
       exact BH rfl rfl rfl (by rw [hret (O[i].c.id, 20) (by unfold GM; rw [gi, gp, if_pos (.inr ⟨by omega, g3⟩)])])
      ·refine Ai ?_
       exact Ay _ ⟨rfl, rfl, rfl, fun q => by rcases q with q | ⟨_, q⟩; exact g1 q; rw [gp] at q; exact g3 q⟩ Qs
     ·refine Ap rfl rfl rfl rfl rfl (Ap rfl rfl rfl rfl rfl (Ap rfl rfl rfl rfl rfl (Ap rfl rfl rfl rfl rfl (Ap rfl rfl rfl rfl rfl (Ap rfl rfl rfl rfl rfl (Ap rfl rfl rfl rfl rfl (Ap rfl rfl rfl rfl rfl (Ap rfl rfl rfl rfl rfl (Ap rfl rfl rfl rfl rfl (Ap rfl rfl rfl rfl rfl (AU (Qk rfl (Qg (BS rfl rfl rfl) rfl (Qm rfl (An (AO rfl (Ai ?_)))))))))))))))))
      exact Ay _ ⟨rfl, rfl, rfl, fun q => by rcases q with q | ⟨q, _⟩; exact g1 q; exact g2 (by omega)⟩ Qs
   ·obtain ⟨rfl, rfl, rfl, hok⟩ := hI
    have hA1 : GM o w i = if BR w O[i].c ≠ 0 then some (O[i].c.id, BR w O[i].c) else none := by unfold GM; rw [gi, if_neg hok]
    have hfv := fun ms => Vy W O[i] rw_ h5 lW hm1 hm2 hWst hRW (hRC.s _ (List.getElem_mem hil)) ms
    rw [hW] at hfv
    refine Az (Qm rfl (Qm rfl (Qm rfl (Qx (Af (i) hRC.q.rd.any rfl underlying27 AH rfl rfl (by omega) (by omega)) rfl (Qx (oG rfl underlying59 AH (hgi _)) rfl (Qx (AG rfl call90 rfl (hfv _)) rfl (Qm rfl (BG (Qm rfl (Qm rfl (An ?_)))))))))))
    refine Ax rfl (fun g4 => ?_) (fun g4 => ?_)
    ·refine Ac (Ab (Qm rfl (Qm rfl (Qx (Af (i) hRC.q.rd.any rfl underlying27 AH rfl rfl (by omega) (by omega)) rfl (Qf Bo rfl (Ql rfl underlying3 (hci _) (Qm rfl (Qm rfl (Qm rfl (An (Aq (Al (Ae (Ae (Al (Ae ?_))))))))))))))))
     exact BH rfl rfl rfl (by rw [hret (O[i].c.id, BR w O[i].c) (by rw [hA1, if_pos g4])])
    ·refine Ai (Aj (Ad (Ab (Qm rfl (Qx (oA rfl) rfl (Qm rfl (Ak ?_)))))))
     exact Am (O.length - (i + 1)) _ (by omega) ⟨i + 1, rfl, rfl, rfl, rfl, by omega, hround (by rw [hA1, if_neg g4])⟩ Qs
  ·obtain rfl : i = O.length := by omega
   have hck2 : CW (l.map Ce.c) = ((List.range O.length).findSome? (IF o)).getD (0, 0) := by rw [hck, B9 _ hno]; rfl
   have hsecO := hsec hno
   refine Aw (Aa (Aa (Ag (Ad (Ac (Az (Qm rfl (An (Ah ?_)))))))))
   refine AD (fun q s h' ms' => ∃ (i : Nat), q = O.length - i ∧ s = [(4, ro), (8, .int .i64 i)] ∧ h5 = h' ∧ ms' = [] ∧ i ≤ O.length ∧ ∀ b, b < i → IF o b = none)
    (O.length - 0) _ ⟨0, rfl, rfl, rfl, rfl, by omega, fun b hb => by omega⟩ Qs ?_
   rintro q s h' ms' ⟨i, rfl, rfl, rfl, rfl, hi, hno2⟩
   refine Ac (Az (Qm rfl (Qm rfl (Qx (AC hRC.q.rd.any rfl underlying27 rfl) rfl (Qm rfl (An ?_))))))
   refine Ax rfl (fun hlt2 => ?_) (fun hlt2 => ?_)
   ·have hil : i < O.length := Ci hlt2
    have gi := hget i hil
    have hci : ∀ ms, Cell h5 ms ((AI ro).add (i * 3)) (.int .i64 O[i].c.id) := fun ms => (hRC.q.any (ms := ms)).cell0 hil rfl
    have hcd : ∀ ms, Cell h5 ms (((AI ro).add (i * 3)).add 1) (.int .i64 O[i].c.dim) := fun ms => (hRC.q.any (ms := ms)).cell hil (f := 1) rfl
    have hgi : ∀ ms, Seg h5 ms ((AI ro).add (i * 3)) (cC O[i]) := fun ms => (hRC.q.any (ms := ms)).seg hil
    have oiv := (hRC.s _ (List.getElem_mem hil)).rd.one
    have hret : ∀ p, IF o i = some p → CW (l.map Ce.c) = p := fun p hp => by rw [hck2, CY hno2 hp _ hil]; rfl
    have hround : IF o i = none → ∀ b, b < i + 1 → IF o b = none := fun h b hb => by
     rcases (by omega : b < i ∨ b = i) with h1 | rfl
     ·exact hno2 b h1
     ·exact h
    refine Ai (Ad (Ac (Ah (Ac (Az (Qm rfl (Qm rfl (Qx (Af (i) hRC.q.rd.any rfl underlying27 AH rfl rfl (by omega) (by omega)) rfl (Qf BC rfl (Ql rfl underlying3 (hcd _) (Qm rfl (An ?_))))))))))))
    refine Ax rfl (fun g5 => ?_) (fun g5 => ?_)
    ·refine Aw (Aa (Ag (Ad (Ab (Qm rfl (Qx (oA rfl) rfl (Qm rfl (Ak ?_))))))))
     exact Am (O.length - (i + 1)) _ (by omega) ⟨i + 1, rfl, rfl, rfl, rfl, by omega, hround (by unfold IF; rw [gi, if_pos g5])⟩ Qs
    ·have hB1 : IF o i = if Dk o O[i].c ≠ 0 then some (O[i].c.id, Dk o O[i].c) else none := by unfold IF; rw [gi, if_neg g5]
     have hsv := fun ms => IV (RC O O[i] ro h5 (by omega) (by rw [hO]; exact hsecO i hil) hOst hRC (hRC.s _ (List.getElem_mem hil))) ms
     rw [hO] at hsv
     refine Ai (Ad (Az (Qm rfl (Qm rfl (Qm rfl (Qx (Af (i) hRC.q.rd.any rfl underlying27 AH rfl rfl (by omega) (by omega)) rfl (Qx (oG rfl underlying59 AH (hgi _)) rfl (Qx (AG rfl call91 rfl (hsv _)) rfl (Qm rfl (BG (Qm rfl (Qm rfl (An ?_)))))))))))))
     refine Ax rfl (fun g6 => ?_) (fun g6 => ?_)
     ·refine Ac (Ab (Qm rfl (Qm rfl (Qx (Af (i) hRC.q.rd.any rfl underlying27 AH rfl rfl (by omega) (by omega)) rfl (Qf Bo rfl (Ql rfl underlying3 (hci _) (Qm rfl (Qm rfl (Qm rfl (An (Aq (Al (Ae (Ae (Al (Ae ?_))))))))))))))))
      exact BH rfl rfl rfl (by rw [hret (O[i].c.id, Dk o O[i].c) (by rw [hB1, if_pos g6])])
     ·refine Ai (Aj (Ad (Ab (Qm rfl (Qx (oA rfl) rfl (Qm rfl (Ak ?_)))))))
      exact Am (O.length - (i + 1)) _ (by omega) ⟨i + 1, rfl, rfl, rfl, rfl, by omega, hround (by rw [hB1, if_neg g6])⟩ Qs
   ·obtain rfl : i = O.length := by omega
    refine Aw (Aa (Aa (Ag (Ad (Az (Qm rfl (Qm rfl (An (Aq ?_)))))))))
    exact BH rfl rfl rfl (by rw [hck2, B9 _ hno2]; rfl)
end Go.Proofs.YtodheebhahdepaaGreat

namespace Go.Proofs.YtodheebhahdepaaGreat
open Go.Proofs.Tryz
open Go.Eng Go.RowKit
theorem Iv (l : List Ce) (v : Value) (h : Hp) (hK : MP l) (hR : RdC h v l) (ms : List Hp) : FnV Tryz.prog 42 #[.agg #[v]] h ms (.bool (decide ((CW (l.map Ce.c)).2 = 0))) := by
 refine IV ?_ ms
 have o1 := hR.q.rd.one
 refine Av func42 ntmps42 rfl rfl (fun w0 hw0 => ?_)
 simp only [A5]
 refine Az ?_
 refine A8 [_] rfl rfl (by rfl) rfl rfl rfl (fun g1 => ?_)
 refine Qm rfl (An (AA fun h1 l1 hS => ?_))
 have hR := hR.up l1
 refine Az (Qx (oG rfl underlying29 Bi (Seg.any hS)) rfl (Qx (AG rfl call62 rfl (IV (OM l v h1 hK hR) _)) rfl (Qm rfl (Qm rfl (Qm rfl (Qm rfl (Qm rfl (BG (Qm rfl (Qm rfl (Qm rfl (An (Aq ?_)))))))))))))
 exact As rfl rfl (rfl)
theorem PS (a k : Int) (ha : 0 ≤ a ∧ a ≤ 1000000) (hk : 1 ≤ k ∧ k ≤ 1000) (h : Hp) (ms : List Hp) : FnV Tryz.prog 46 #[.int .i64 a, .int .i64 k] h ms (.int .i64 (if k = 1 then a else a * k % 211 + 1)) := by
 refine IV ?_ ms
 have h1 : 0 ≤ a * k ∧ a * k ≤ 1000000 * 1000 := ⟨Int.mul_nonneg ha.1 (by omega), Int.mul_le_mul ha.2 hk.2 (by omega) (by omega)⟩
 refine Av func46 ntmps46 rfl rfl (fun w0 hw0 => ?_)
 simp only [A5]
 refine Az (Qm rfl (An (Ac (Az (Qm rfl (Qm rfl (An ?_)))))))
 refine Ax rfl (fun hk1 => ?_) (fun hk1 => ?_)
 ·refine Ac (Ab (Qm rfl (Qm rfl (An (Aq (Ae ?_))))))
  exact As rfl rfl (by rw [if_pos hk1])
 ·refine Ai (Ad (Az (Qm rfl (Qm rfl (Qx (oM rfl) rfl (Qx (B5 rfl rfl rfl (by omega) (by omega)) rfl (Qx (oA rfl) rfl (Qm rfl (An (Aq ?_))))))))))
  exact As rfl rfl (by rw [if_neg hk1])
theorem N5 (a k : Int) (ha : 0 ≤ a ∧ a ≤ 1000000) (hk : 1 ≤ k ∧ k ≤ 1000) (h : Hp) (ms : List Hp) : FnV Tryz.prog 47 #[.int .i64 a, .int .i64 k] h ms (.bool (decide (a % k = 1))) := by
 refine IV ?_ ms
 refine Av func47 ntmps47 rfl rfl (fun w0 hw0 => ?_)
 simp only [A5]
 refine Az (Qm rfl (BG (Qm rfl (Qm rfl (Qx (B5 rfl rfl rfl (by omega) (by omega)) rfl (Qm rfl (Qm rfl (An (Aq ?_)))))))))
 exact As rfl rfl (rfl)
def Gl : List Int → List Int → Bool
 | x :: a, y :: b => if x = y then Gl a b else decide (x < y)
 | _, _ => false
def CI (a b : List Int) : Bool := if a.length ≠ b.length then decide (a.length < b.length) else Gl a b
theorem Nv (a b : List Int) (va vb : Value) (h : Hp) (hA : RdL cI 1 h [] va a) (hB : RdL cI 1 h [] vb b) (ms : List Hp) : FnV Tryz.prog 61 #[va, vb] h ms (.bool (CI a b)) := by
 refine IV ?_ ms
 have o1 := hA.rd.one
 have o2 := hB.rd.one
 have la := hA.len_le
 have lb := hB.len_le
 refine Av func61 ntmps61 rfl rfl (fun w0 hw0 => ?_)
 simp only [A5]
 refine Az (Qm rfl (An (Ac (Az (Qm rfl (Qx (AC hA.rd.any rfl underlying25 rfl) rfl (Qm rfl (Qx (AC hB.rd.any rfl underlying25 rfl) rfl (Qm rfl (An ?_))))))))))
 refine Ax rfl (fun h1 => ?_) (fun h1 => ?_)
 ·refine Ac (Ab (Qm rfl (Qx (AC hA.rd.any rfl underlying25 rfl) rfl (Qm rfl (Qx (AC hB.rd.any rfl underlying25 rfl) rfl (Qm rfl (Qm rfl (An (Aq (Ae ?_))))))))))
  exact As rfl rfl (by unfold CI; rw [if_pos (by omega)]; exact congrArg Value.bool (decide_eq_decide.2 (by omega)))
 ·have hl : a.length = b.length := by omega
  have hbf : CI a b = Gl a b := by unfold CI; rw [if_neg (fun q => q hl)]
  refine Ai (Ad (Ac (Az (Qm rfl (An (Ah ?_))))))
  refine AD (fun q s h' ms' => ∃ (i : Nat), q = a.length - i ∧ s = [(0, va), (1, vb), (5, .int .i64 i)] ∧ h = h' ∧ ms' = [] ∧ i ≤ a.length ∧ Gl a b = Gl (a.drop i) (b.drop i))
   (a.length - 0) _ ⟨0, rfl, rfl, rfl, rfl, by omega, rfl⟩ Qs ?_
  rintro q s h' ms' ⟨i, rfl, rfl, rfl, rfl, hi, he⟩
  refine Ac (Az (Qm rfl (Qm rfl (Qx (AC hA.rd.any rfl underlying25 rfl) rfl (Qm rfl (An ?_))))))
  refine Ax rfl (fun hlt => ?_) (fun hlt => ?_)
  ·have hia : i < a.length := Ci hlt
   have hib : i < b.length := by omega
   have hca : Cell h [] ((AI va).add (i * 1)) (.int .i64 a[i]) := hA.cell0 hia rfl
   have hcb : Cell h [] ((AI vb).add (i * 1)) (.int .i64 b[i]) := hB.cell0 hib rfl
   have hd : Gl (a.drop i) (b.drop i) = if a[i] = b[i] then Gl (a.drop (i + 1)) (b.drop (i + 1)) else decide (a[i] < b[i]) := by
    rw [List.drop_eq_getElem_cons hia, List.drop_eq_getElem_cons hib]; rfl
   refine Ai (Ad (Ac (Ah (Ac (Bb 8 CN (by kernel_rfl) rfl (Wm rfl (Wm rfl (AM (Af (i) hA.rd.any rfl underlying25 Bm rfl rfl (by omega) (by omega)) rfl rfl (Wl rfl underlying3 (hca) (Wm rfl (Wm rfl (AM (Af (i) hB.rd.any rfl underlying25 Bm rfl rfl (by omega) (by omega)) rfl rfl (Wl rfl underlying3 (hcb) (AU (Qm rfl (An ?_))))))))))))))))
   refine Ax rfl (fun h2 => ?_) (fun h2 => ?_)
   ·refine Ac (Bb 8 CN (by kernel_rfl) rfl (Wm rfl (Wm rfl (AM (Af (i) hA.rd.any rfl underlying25 Bm rfl rfl (by omega) (by omega)) rfl rfl (Wl rfl underlying3 (hca) (Wm rfl (Wm rfl (AM (Af (i) hB.rd.any rfl underlying25 Bm rfl rfl (by omega) (by omega)) rfl rfl (Wl rfl underlying3 (hcb) (AU (Qm rfl (Qm rfl (An (Aq (Al (Ae (Ae (Al (Ae ?_)))))))))))))))))))
    exact As rfl rfl (by rw [hbf, he, hd, if_neg h2])
   ·have h2 : a[i] = b[i] := Classical.byContradiction fun q => h2 q
    refine Ai (Aj (Ad (Ab (Qm rfl (Qx (oA rfl) rfl (Qm rfl (Ak ?_)))))))
    exact Am (a.length - (i + 1)) _ (by omega) ⟨i + 1, rfl, rfl, rfl, rfl, by omega, by rw [he, hd, if_pos h2]⟩ Qs
  ·obtain rfl : i = a.length := by omega
   refine Aw (Aa (Aa (Ag (Ad (Az (Qm rfl (An (Aq ?_))))))))
   exact As rfl rfl (by rw [hbf, he, List.drop_length]; rfl)
def Jd (x : Int) (l : List Int) : List Int := l.takeWhile (fun y => decide (y < x)) ++ x :: l.dropWhile (fun y => decide (y < x))
def KJ (x : Int) (l : List Int) : Prop := (l.dropWhile fun y => decide (y < x)).head? = some x
instance (x : Int) (l : List Int) : Decidable (KJ x l) := by unfold KJ; infer_instance
def Ed : List Int → List Int → Option (List Int)
 | acc, [] => some acc
 | acc, x :: l => if KJ x acc then Ed acc l else if x < 0 ∨ 9 < (Jd x acc).length then none else Ed (Jd x acc) l
theorem Sv {x : Int} {l : List Int} {k : Nat} (hk : k ≤ l.length) (h1 : ∀ j (hj : j < l.length), j < k → l[j] < x) (h2 : ∀ hk : k < l.length, ¬ l[k] < x) : Jd x l = l.take k ++ x :: l.drop k ∧ (KJ x l ↔ ∃ h : k < l.length, l[k] = x) := by
 obtain ⟨e1, e2⟩ := DK (fun y : Int => decide (y < x)) l k hk (fun j hj hjk => decide_eq_true (h1 j hj hjk)) (fun hk => decide_eq_false (h2 hk))
 unfold Jd KJ
 rw [e1, e2]
 refine ⟨rfl, ?_⟩
 rw [List.head?_drop]
 by_cases hkl : k < l.length
 ·rw [List.getElem?_eq_getElem hkl]
  exact ⟨fun q => ⟨hkl, Option.some.inj q⟩, fun ⟨_, q⟩ => by rw [q]⟩
 ·rw [List.getElem?_eq_none (by omega)]
  exact ⟨fun q => (nomatch q), fun ⟨q, _⟩ => absurd q hkl⟩
theorem Sn (x : Int) (l : List Int) : (Jd x l).length = l.length + 1 := by
 unfold Jd
 have := congrArg List.length (List.takeWhile_append_dropWhile (p := fun y : Int => decide (y < x)) (l := l))
 rw [List.length_append] at this
 rw [List.length_append, List.length_cons]; omega
def XV (r : Value) (ms : List Hp) : Option (List Int) → Prop
 | some l => ∃ v m, ms = [m] ∧ r = .tuple #[v, .bool true] ∧ OwnL cI 1 3 m v l
 | none => r = .tuple #[.slice none 0 0, .bool false]
theorem WU (l : List Int) (v : Value) (h : Hp) (hl : l.length ≤ 100000) (hR : RdL cI 1 h [] v l) : FnT Tryz.prog 39 #[v] h [] (fun r h' ms' => h = h' ∧ XV r ms' (Ed [] l)) := by
 have o1 := hR.rd.one
 refine Av func39 ntmps39 rfl rfl (fun w0 hw0 => ?_)
 simp only [A5]
 refine Az (Qm rfl (Qm rfl (BG (Qm rfl (An (Ac (Az (Qm rfl (An (Ah (Bz ?_)))))))))))
 refine AD (fun q s h' ms' => ∃ (i : Nat) (vo : Value) (mo : Hp) (acc : List Int), q = l.length - i ∧ s = [(0, v), (4, vo), (5, .int .i64 i)] ∧ h = h' ∧ ms' = [mo] ∧ i ≤ l.length ∧ acc.length ≤ 9 ∧ OwnL cI 1 3 mo vo acc ∧ Ed [] l = Ed acc (l.drop i))
  (l.length - 0) _ ⟨0, _, Hp.emp, [], rfl, rfl, rfl, rfl, by omega, by simp, OwnL.nil AT, rfl⟩ Qs ?_
 rintro q s h' ms' ⟨i, vo, mo, acc, rfl, rfl, rfl, rfl, hi, ha9, hO, he⟩
 refine Ac (Az (Qm rfl (Qm rfl (Qx (AC hR.rd.any rfl underlying25 rfl) rfl (Qm rfl (An ?_))))))
 refine Ax rfl (fun hlt => ?_) (fun hlt => ?_)
 ·have hil : i < l.length := Ci hlt
  have hcl := hO.rd (h := h) (ms := [mo]) (List.Mem.head _)
  have ovo : vo.oneCell' = true := hcl.rd.one
  have hci : ∀ ms, Cell h ms ((AI v).add (i * 1)) (.int .i64 l[i]) := fun ms => (hR.any (ms := ms)).cell0 hil rfl
  have hd : Ed acc (l.drop i) = if KJ l[i] acc then Ed acc (l.drop (i + 1)) else if l[i] < 0 ∨ 9 < (Jd l[i] acc).length then none else Ed (Jd l[i] acc) (l.drop (i + 1)) := by rw [List.drop_eq_getElem_cons hil]; rfl
  rw [hd] at he
  refine Ai (Ad (Ac (Ah (Az (Qm rfl (An ?_))))))
  refine AV (fun s h' ms' => ∃ (k : Nat), s = [(0, v), (4, vo), (5, .int .i64 i), (6, .int .i64 k)] ∧ h = h' ∧ ms' = [mo] ∧ k ≤ acc.length ∧ Jd l[i] acc = acc.take k ++ l[i] :: acc.drop k ∧ (KJ l[i] acc ↔ ∃ h : k < acc.length, acc[k] = l[i])) ?_ (fun s h ms hI => ?_)
  ·refine Ah ?_
   refine AD (fun q s h' ms' => ∃ (k : Nat), q = acc.length - k ∧ s = [(0, v), (4, vo), (5, .int .i64 i), (6, .int .i64 k)] ∧ h = h' ∧ ms' = [mo] ∧ k ≤ acc.length ∧ ∀ j (hj : j < acc.length), j < k → acc[j] < l[i])
    (acc.length - 0) _ ⟨0, rfl, rfl, rfl, rfl, by omega, fun j hj h => by omega⟩ Qs ?_
   rintro q s h' ms' ⟨k, rfl, rfl, rfl, rfl, hk, hlo⟩
   refine Ac (Ac (Bb 13 CN (by kernel_rfl) rfl (Wm rfl (Wm rfl (AM (AC hcl.rd rfl underlying25 rfl) rfl rfl (Wm rfl (Wm rfl ?_)))))))
   refine BV (t := 18) rfl (fun hs1 => ?_) (fun hs1 => ?_)
   ·have hkl : k < acc.length := Ci hs1
    have hck : Cell h [mo] ((AI vo).add (k * 1)) (.int .i64 acc[k]) := hcl.cell0 hkl rfl
    refine AF (Au rfl rfl) rfl rfl rfl rfl (AF (Au rfl rfl) rfl rfl rfl rfl (AF (Af (k) hcl.rd rfl underlying25 Bm rfl rfl (by omega) (by omega)) rfl rfl rfl rfl (AF (oL rfl underlying3 (hck)) rfl rfl rfl rfl (AF (Au rfl rfl) rfl rfl rfl rfl (AF (Au rfl rfl) rfl rfl rfl rfl (AF (Af (i) hR.rd.any rfl underlying25 Bm rfl rfl (by omega) (by omega)) rfl rfl rfl rfl (AF (oL rfl underlying3 (hci _)) rfl rfl rfl rfl (AU (Qg (C0 rfl rfl rfl) rfl (Qm rfl (An ?_)))))))))))
    refine Ax rfl (fun hs2 => ?_) (fun hs2 => ?_)
    ·refine Ai (Ad (Ah (Ab (Qm rfl (Qx (oA rfl) rfl (Qm rfl (Ak (Aj ?_))))))))
     exact Am (acc.length - (k + 1)) _ (by omega) ⟨k + 1, rfl, rfl, rfl, rfl, by omega, fun j hj h => by
      rcases (by omega : j < k ∨ j = k) with h1 | rfl
      ·exact hlo j hj h1
      ·exact hs2⟩ Qs
    ·refine Aw (Aa (Aa (Ag ?_)))
     exact Ay _ ⟨k, rfl, rfl, rfl, hk, Sv hk hlo fun _ => hs2⟩ Qs
   ·have hkl : k = acc.length := by omega
    refine Ap rfl rfl rfl rfl rfl (Ap rfl rfl rfl rfl rfl (Ap rfl rfl rfl rfl rfl (Ap rfl rfl rfl rfl rfl (Ap rfl rfl rfl rfl rfl (Ap rfl rfl rfl rfl rfl (Ap rfl rfl rfl rfl rfl (Ap rfl rfl rfl rfl rfl (AU (Qk rfl (Qm rfl (An (AO rfl (Aw (Aa (Aa (Ag ?_))))))))))))))))
    exact Ay _ ⟨k, rfl, rfl, rfl, hk, Sv hk hlo fun h => absurd h (by omega)⟩ Qs
  ·obtain ⟨k, rfl, rfl, rfl, hk, hins, hhas⟩ := hI
   have hil2 := Sn l[i] acc
   refine AV (fun s h' ms' => s = [(0, v), (4, vo), (5, .int .i64 i), (6, .int .i64 k)] ∧ h = h' ∧ ms' = [mo] ∧ ¬ KJ l[i] acc) ?_ (fun s h ms hI => ?_)
   ·refine Ac (Bb 13 CN (by kernel_rfl) rfl (Wm rfl (Wm rfl (AM (AC hcl.rd rfl underlying25 rfl) rfl rfl (Wm rfl (Wm rfl ?_))))))
    refine BV (t := 35) rfl (fun g1 => ?_) (fun g1 => ?_)
    ·have hkl : k < acc.length := Ci g1
     have hck : Cell h [mo] ((AI vo).add (k * 1)) (.int .i64 acc[k]) := hcl.cell0 hkl rfl
     refine AF (Au rfl rfl) rfl rfl rfl rfl (AF (Au rfl rfl) rfl rfl rfl rfl (AF (Af (k) hcl.rd rfl underlying25 Bm rfl rfl (by omega) (by omega)) rfl rfl rfl rfl (AF (oL rfl underlying3 (hck)) rfl rfl rfl rfl (AF (Au rfl rfl) rfl rfl rfl rfl (AF (Au rfl rfl) rfl rfl rfl rfl (AF (Af (i) hR.rd.any rfl underlying25 Bm rfl rfl (by omega) (by omega)) rfl rfl rfl rfl (AF (oL rfl underlying3 (hci _)) rfl rfl rfl rfl (AU (Qg (DD rfl rfl rfl) rfl (Qm rfl (An ?_)))))))))))
     refine Ax rfl (fun g2 => ?_) (fun g2 => ?_)
     ·rw [if_pos (hhas.2 ⟨hkl, g2⟩)] at he
      refine Aw (Aa (Ag (Ad (Ab (Qm rfl (Qx (oA rfl) rfl (Qm rfl (Ak ?_))))))))
      exact Am (l.length - (i + 1)) _ (by omega) ⟨i + 1, vo, mo, acc, rfl, rfl, rfl, rfl, by omega, ha9, hO, he⟩ Qs
     ·refine Ai ?_
      exact Ay _ ⟨rfl, rfl, rfl, fun q => g2 (hhas.1 q).2⟩ Qs
    ·refine Ap rfl rfl rfl rfl rfl (Ap rfl rfl rfl rfl rfl (Ap rfl rfl rfl rfl rfl (Ap rfl rfl rfl rfl rfl (Ap rfl rfl rfl rfl rfl (Ap rfl rfl rfl rfl rfl (Ap rfl rfl rfl rfl rfl (Ap rfl rfl rfl rfl rfl (AU (Qk rfl (Qm rfl (An (AO rfl (Ai ?_)))))))))))))
     exact Ay _ ⟨rfl, rfl, rfl, fun q => absurd (hhas.1 q).1 (by omega)⟩ Qs
   ·obtain ⟨rfl, rfl, rfl, hnh⟩ := hI
    rw [if_neg hnh] at he
    refine Ac (Bb 8 CN (by kernel_rfl) rfl (Wm rfl (Wm rfl (AM (Af (i) hR.rd.any rfl underlying25 Bm rfl rfl (by omega) (by omega)) rfl rfl (Wl rfl underlying3 (hci _) ?_)))))
    refine Uw (Ea [_] rfl underlying25 Bm rfl (by rfl) rfl rfl (by omega)) rfl rfl ?_
    refine Wm rfl (Wm rfl (AM (Du (k) hcl.rd rfl underlying25 Bm rfl rfl (by omega) (by omega)) rfl rfl (Hz (fun g50 => ?_))))
    refine AJ 0 (OwnL.blk (g := g50) (el := 3) (F := cI) (l := [l[i]]) 1 AT rfl (by decide)) ((hO.rd (h := h) (List.Mem.tail _ (List.Mem.head _))).sub_ hk (Nat.le_refl _)) rfl underlying25 Bm rfl (by omega) rfl rfl rfl BW (by (try simp only [List.length_singleton, List.length_nil, List.length_append, List.length_take, List.length_drop, List.nil_append]); omega) (by (try simp only [List.length_singleton, List.length_nil, List.length_append, List.length_take, List.length_drop, List.nil_append]); omega) rfl rfl rfl (fun v6 m6 hO6 => ?_)
    have ov6 : v6.oneCell' = true := (hO6.rd (h := h) (ms := [m6]) (List.Mem.head _)).rd.one
    refine Qm rfl (BG ?_)
    refine AE [] [] [] rfl underlying25 Bm rfl (by omega) (by kernel_rfl) (by repeat (first | exact trivial | refine ⟨⟨by first | rfl | exact (hcl.rd).cells | exact Rd.cells ‹_› | exact (RdL.rd ‹_›).cells, rfl, rfl⟩, ?_⟩)) rfl rfl rfl rfl (fun g55 => ?_)
    refine Qm rfl (Qm rfl (Qx (E2 (k) hcl.rd rfl underlying25 Bm rfl rfl (by omega) (by omega)) rfl ?_))
    refine AJ 0 (D0 g55 AT) ((hO.rd (h := h) (List.Mem.tail _ (List.Mem.tail _ (List.Mem.head _)))).sub_ (Nat.zero_le _) hk) rfl underlying25 Bm rfl (by omega) rfl rfl rfl BW (by (try simp only [List.length_singleton, List.length_nil, List.length_append, List.length_take, List.length_drop, List.nil_append]); omega) (by (try simp only [List.length_singleton, List.length_nil, List.length_append, List.length_take, List.length_drop, List.nil_append]); omega) rfl rfl rfl (fun v7 m7 hO7 => ?_)
    refine Qm rfl ?_
    refine AJ 0 hO7 (hO6.rd (h := h) (List.Mem.tail _ (List.Mem.head _))) rfl underlying25 Bm rfl (by omega) rfl rfl rfl BW (by (try simp only [List.length_singleton, List.length_nil, List.length_append, List.length_take, List.length_drop, List.nil_append]); omega) (by (try simp only [List.length_singleton, List.length_nil, List.length_append, List.length_take, List.length_drop, List.nil_append]); omega) rfl rfl rfl (fun v8 m8 hO8 => ?_)
    have heq : [] ++ (acc.drop 0).take (k - 0) ++ ([l[i]] ++ (acc.drop k).take (acc.length - k)) = Jd l[i] acc := by
     rw [hins, List.drop_zero, Nat.sub_zero, List.take_of_length_le (l := acc.drop k) (by rw [List.length_drop]; omega)]; rfl
    rw [heq] at hO8
    have ov8 : v8.oneCell' = true := (hO8.rd (h := h) (ms := [m8]) (List.Mem.head _)).rd.one
    refine Qm rfl (An (V8 (Goes.perm (List.perm_append_comm (l₁ := [m8]) (l₂ := [m6, mo]))) ?_))
    refine Uc (Uc ?_)
    refine Az (Qm rfl (Qm rfl (Qx (Af (i) hR.rd.any rfl underlying25 Bm rfl rfl (by omega) (by omega)) rfl (Ql rfl underlying3 (hci _) (Qm rfl (Qm rfl ?_))))))
    refine AQ (t := 67) rfl (fun g3 => ?_) (fun g3 => ?_)
    ·rw [if_pos (.inl g3)] at he
     refine Qk rfl (Qk rfl (Qk rfl (Qm rfl (An (Bk rfl (Az (Qm rfl (Qm rfl (An (Aq (Al (Ae (Ae (Al (Ae ?_)))))))))))))))
     exact BH rfl rfl rfl (⟨rfl, by rw [he]; rfl⟩)
    ·refine Qg (Au rfl rfl) rfl (Qg (PM (hO8.rd (h := h) (ms := [m8]) (List.Mem.head _)).rd rfl underlying25 rfl) rfl (Qg (BY rfl rfl rfl) rfl (Qm rfl (An ?_))))
     refine Ax rfl (fun g4 => ?_) (fun g4 => ?_)
     ·rw [if_pos (.inr (by omega))] at he
      refine Az (Qm rfl (Qm rfl (An (Aq (Al (Ae (Ae (Al (Ae ?_)))))))))
      exact BH rfl rfl rfl (⟨rfl, by rw [he]; rfl⟩)
     ·rw [if_neg (by omega)] at he
      refine Ai (Aj (Ad (Ab (Qm rfl (Qx (oA rfl) rfl (Qm rfl (Ak ?_)))))))
      exact Am (l.length - (i + 1)) _ (by omega) ⟨i + 1, v8, m8, _, rfl, rfl, rfl, rfl, by omega, by omega, hO8, he⟩ Qs
 ·have hie : i = l.length := by omega
  rw [hie, List.drop_length] at he
  have he : Ed [] l = some acc := he
  refine Aw (Aa (Aa (Ag (Ad (Az (Qm rfl (Qm rfl (Qm rfl (An (Aq ?_))))))))))
  exact BH rfl rfl rfl (⟨rfl, by rw [he]; exact ⟨vo, mo, rfl, rfl, hO⟩⟩)
def cW (v : Value) : List Value := [v]
theorem Dn : ∀ v, (cW v).length = 1 := fun _ => rfl
def RdEs (h : Hp) (es : List Value) (ll : List (List Int)) : Prop := es.length = ll.length ∧ ∀ i (h1 : i < es.length) (h2 : i < ll.length), RdL cI 1 h [] es[i] ll[i]
theorem RdEs.up {h h' : Hp} {es : List Value} {ll : List (List Int)} (R : RdEs h es ll) (l : h.le h') : RdEs h' es ll := ⟨R.1, fun i h1 h2 => (R.2 i h1 h2).up l⟩
def Dm (ll : List (List Int)) (s : List Int) : Nat := (ll.takeWhile fun t => CI t s).length
def Cx (ll : List (List Int)) (s : List Int) : Nat × Bool := (Dm ll s, match ll[Dm ll s]? with | some t => !CI s t | none => false)
theorem U9 {ll : List (List Int)} {s : List Int} {k : Nat} (hk : k ≤ ll.length) (h1 : ∀ j (hj : j < ll.length), j < k → CI ll[j] s = true) (h2 : ∀ hk : k < ll.length, CI ll[k] s = false) : Dm ll s = k := by
 obtain ⟨e1, _⟩ := DK (fun t => CI t s) ll k hk h1 h2
 unfold Dm
 rw [e1, List.length_take]; omega
theorem Qn (ll : List (List Int)) (s : List Int) (es : List Value) (v vs : Value) (h : Hp) (hn : ll.length ≤ 1000000) (hm : ∀ i j (hi : i < ll.length) (hj : j < ll.length), i ≤ j → CI ll[j] s = true → CI ll[i] s = true) (hV : RdL cW 1 h [] v es) (hE : RdEs h es ll) (hS : RdL cI 1 h [] vs s) (ms : List Hp) : FnV Tryz.prog 40 #[v, vs] h ms (.tuple #[.int .i64 (Cx ll s).1, .bool (Cx ll s).2]) := by
 refine IV ?_ ms
 have o1 := hV.rd.one
 have o2 := hS.rd.one
 have hle := hE.1
 refine Av func40 ntmps40 rfl rfl (fun w0 hw0 => ?_)
 simp only [A5]
 refine Az (Qm rfl (Qm rfl (BG (Qm rfl (BG (Qm rfl (Qx (AC hV.rd.any rfl underlying22 rfl) rfl (Qm rfl (An (Ac (Ah ?_)))))))))))
 refine AD (fun q sl h' ms' => ∃ (lo hi : Nat), q = hi - lo ∧ sl = [(0, v), (1, vs), (6, .int .i64 lo), (7, .int .i64 hi)] ∧ h = h' ∧ ms' = [] ∧ lo ≤ hi ∧ hi ≤ ll.length ∧ (∀ j (hj : j < ll.length), j < lo → CI ll[j] s = true) ∧ ∀ j (hj : j < ll.length), hi ≤ j → CI ll[j] s = false)
  (ll.length - 0) _ ⟨0, ll.length, rfl, by rw [← hle], rfl, rfl, by omega, by omega, fun j hj h => by omega, fun j hj h => by omega⟩ Qs ?_
 rintro q sl h' ms' ⟨lo, hi, rfl, rfl, rfl, rfl, hlh, hhl, hlo, hhi⟩
 refine Ac (Az (Qm rfl (Qm rfl (Qm rfl (An ?_)))))
 refine Ax rfl (fun hlt => ?_) (fun hlt => ?_)
 ·obtain ⟨m, hmm⟩ : ∃ m, (lo + hi) / 2 = m := ⟨_, rfl⟩
  have hml : m < ll.length := by omega
  have hme : m < es.length := by omega
  have hmt : ((lo : Int) + hi) / 2 = (m : Int) := by omega
  have hcm : Cell h [] ((AI v).add (m * 1)) es[m] := hV.cell0 hme rfl
  have oem := (hE.2 m hme hml).rd.one
  refine Ai (Ad (Ah (Az (Qm rfl (Qm rfl (Qx (oA rfl) rfl (Qx (H0 rfl rfl rfl (by omega) (by omega)) rfl (Qm rfl (An ?_)))))))))
  rw [hmt]
  refine Az (Qm rfl (Qm rfl (Qx (Af (m) hV.rd.any rfl underlying22 Cn rfl rfl (by omega) (by omega)) rfl (Ql rfl underlying25 (hcm) (Qm rfl (Qx (AG rfl call61 rfl (Nv ll[m] s _ _ h (hE.2 m hme hml) hS _)) rfl (An ?_)))))))
  refine Bu rfl (fun hb => ?_) (fun hb => ?_)
  ·refine Ab (Qm rfl (Qx (oA rfl) rfl (Qm rfl (Ak (Aj ?_)))))
   exact Am (hi - (m + 1)) _ (by omega) ⟨m + 1, hi, rfl, rfl, rfl, rfl, by omega, by omega, fun j hj h => hm j m hj hml (by omega) hb, hhi⟩ Qs
  ·refine Ab (Qm rfl (Qm rfl (Ak (Aj ?_))))
   exact Am (m - lo) _ (by omega) ⟨lo, m, rfl, rfl, rfl, rfl, by omega, by omega, hlo, fun j hj h => by
    cases hq : CI ll[j] s with
    | false => rfl
    | true => rw [hm m j hml hj h hq] at hb; cases hb⟩ Qs
 ·obtain rfl : lo = hi := by omega
  have hcnt : Dm ll s = lo := U9 hhl hlo fun hk => hhi lo hk (Nat.le_refl _)
  have hp1 : (Cx ll s).1 = lo := hcnt
  refine Aw (Aa (Aa (Ag (Ad (Az (Qm rfl (Qm rfl (Qm rfl (Qx (AC hV.rd.any rfl underlying22 rfl) rfl (Qm rfl (Qm rfl ?_)))))))))))
  refine AQ (t := 32) rfl (fun g1 => ?_) (fun g1 => ?_)
  ·have hll : lo < ll.length := by omega
   have hle2 : lo < es.length := by omega
   have hcl : Cell h [] ((AI v).add (lo * 1)) es[lo] := hV.cell0 hle2 rfl
   have oel := (hE.2 lo hle2 hll).rd.one
   have hp2 : (Cx ll s).2 = !CI s ll[lo] := by unfold Cx; rw [hcnt, List.getElem?_eq_getElem hll]
   refine Qg (Au rfl rfl) rfl (Qg (Au rfl rfl) rfl (Qg (Au rfl rfl) rfl (Qg (Af (lo) hV.rd.any rfl underlying22 Cn rfl rfl (by omega) (by omega)) rfl (Qg (oL rfl underlying25 (hcl)) rfl (Qg (AG rfl call61 rfl (Nv s ll[lo] _ _ h hS (hE.2 lo hle2 hll) _)) rfl (Qg (Ft rfl rfl) rfl (Qm rfl (Qm rfl (Qm rfl (An (Aq ?_)))))))))))
   exact BH rfl rfl rfl (by rw [hp1, hp2])
  ·have hp2 : (Cx ll s).2 = false := by unfold Cx; rw [hcnt, List.getElem?_eq_none (by omega)]
   refine Qk rfl (Qk rfl (Qk rfl (Qk rfl (Qk rfl (Qk rfl (Qk rfl (Qm rfl (Qm rfl (Qm rfl (An (Aq ?_)))))))))))
   exact BH rfl rfl rfl (by rw [hp1, hp2])
end Go.Proofs.YtodheebhahdepaaGreat
namespace Go.Proofs.YtodheebhahdepaaGreat
open Go.Eng Go.RowKit
variable {all : List (List Int)} {a b : List Int}
theorem M9 : ∀ a : List Int, Gl a a = false
 | [] => rfl
 | x :: a => by unfold Gl; rw [if_pos rfl]; exact M9 a
theorem Kz : ∀ {a b c : List Int}, Gl a b = true → Gl b c = true → Gl a c = true
 | x :: a, y :: b, z :: c, h1, h2 => by
  unfold Gl at *
  by_cases e1 : x = y
  ·subst e1
   rw [if_pos rfl] at h1
   by_cases e2 : x = z
   ·subst e2
    rw [if_pos rfl] at h2 ⊢
    exact Kz h1 h2
   ·rw [if_neg e2] at h2 ⊢
    exact h2
  ·rw [if_neg e1] at h1
   have h1 := of_decide_eq_true h1
   by_cases e2 : y = z
   ·subst e2
    rw [if_neg e1]; exact decide_eq_true h1
   ·rw [if_neg e2] at h2
    have h2 := of_decide_eq_true h2
    rw [if_neg (by omega)]; exact decide_eq_true (by omega)
 | [], _, _, h1, _ => by cases h1
 | _ :: _, [], _, h1, _ => by cases h1
 | _ :: _, _ :: _, [], _, h2 => by cases h2
theorem JN : ∀ {a b : List Int}, a.length = b.length → a ≠ b → Gl a b = true ∨ Gl b a = true
 | [], [], _, h => absurd rfl h
 | x :: a, y :: b, hl, h => by
  unfold Gl
  by_cases e : x = y
  ·subst e
   rw [if_pos rfl, if_pos rfl]
   exact JN (by simpa using hl) (fun q => h (by rw [q]))
  ·rw [if_neg e, if_neg (fun q => e q.symm)]
   rcases Int.lt_or_gt_of_ne e with h1 | h1
   ·exact .inl (decide_eq_true h1)
   ·exact .inr (decide_eq_true h1)
 | [], _ :: _, hl, _ => by simp at hl
 | _ :: _, [], hl, _ => by simp at hl
theorem befF_iff : CI a b = true ↔ a.length < b.length ∨ (a.length = b.length ∧ Gl a b = true) := by
 unfold CI
 split
 ·rename_i h
  rw [decide_eq_true_iff]
  exact ⟨.inl, fun q => by rcases q with q | ⟨q, _⟩; exact q; exact absurd q h⟩
 ·rename_i h
  have h : a.length = b.length := Classical.not_not.1 h
  exact ⟨fun q => .inr ⟨h, q⟩, fun q => by rcases q with q | ⟨_, q⟩; omega; exact q⟩
theorem F3 (a : List Int) : CI a a = false := by
 cases h : CI a a with
 | false => rfl
 | true =>
  rcases befF_iff.1 h with q | ⟨_, q⟩
  ·omega
  ·rw [M9] at q; cases q
theorem Kf {c : List Int} (h1 : CI a b = true) (h2 : CI b c = true) : CI a c = true := by
 rw [befF_iff] at *
 rcases h1 with h1 | ⟨h1, h3⟩ <;> rcases h2 with h2 | ⟨h2, h4⟩
 ·exact .inl (by omega)
 ·exact .inl (by omega)
 ·exact .inl (by omega)
 ·exact .inr ⟨by omega, Kz h3 h4⟩
theorem JA (h : a ≠ b) : CI a b = true ∨ CI b a = true := by
 rw [befF_iff, befF_iff]
 rcases Nat.lt_trichotomy a.length b.length with h1 | h1 | h1
 ·exact .inl (.inl h1)
 ·rcases JN h1 h with h2 | h2
  ·exact .inl (.inr ⟨h1, h2⟩)
  ·exact .inr (.inr ⟨h1.symm, h2⟩)
 ·exact .inr (.inl h1)
def SrtB (all : List (List Int)) : Prop := all.Pairwise fun a b => CI a b = true
theorem SrtB.mono (H : SrtB all) (s : List Int) : ∀ i j (hi : i < all.length) (hj : j < all.length), i ≤ j → CI all[j] s = true → CI all[i] s = true := fun i j hi hj hij h => by
 rcases (by omega : i = j ∨ i < j) with rfl | h1
 ·exact h
 ·exact Kf (List.pairwise_iff_getElem.1 H i j hi hj h1) h
theorem Hu (ll : List (List Int)) (s : List Int) : Dm ll s ≤ ll.length := (List.takeWhile_sublist _).length_le
theorem LF {α : Type} (p : α → Bool) : ∀ l : List α, (∀ j (hj : j < l.length), j < (l.takeWhile p).length → p l[j] = true) ∧ ∀ h : (l.takeWhile p).length < l.length, p l[(l.takeWhile p).length] = false
 | [] => ⟨fun j hj => absurd hj (by simp), fun h => absurd h (by simp)⟩
 | a :: l => by
  obtain ⟨h1, h2⟩ := LF p l
  cases ha : p a with
  | false =>
   have e : (a :: l).takeWhile p = [] := by simp [List.takeWhile, ha]
   refine ⟨fun j _ h => ?_, fun h => ?_⟩
   ·rw [e] at h; simp at h
   ·have : ∀ k (hk : k < (a :: l).length), k = 0 → p (a :: l)[k] = false := fun k hk q => by subst q; exact ha
    exact this _ h (by rw [e]; rfl)
  | true =>
   have e : (a :: l).takeWhile p = a :: l.takeWhile p := by simp [List.takeWhile, ha]
   refine ⟨fun j hj h => ?_, fun h => ?_⟩
   ·cases j with
    | zero => exact ha
    | succ j =>
     rw [e, List.length_cons] at h
     exact h1 j (by simpa using hj) (by omega)
   ·have : ∀ k (hk : k < (a :: l).length), k = (l.takeWhile p).length + 1 → p (a :: l)[k] = false := fun k hk q => by
     subst q
     exact h2 (by simpa using hk)
    exact this _ h (by rw [e]; rfl)
theorem If (ll : List (List Int)) (s : List Int) {j : Nat} (hj : j < ll.length) (h : j < Dm ll s) : CI ll[j] s = true := (LF (fun t => CI t s) ll).1 j hj h
theorem Il {ll : List (List Int)} {s : List Int} (hk : Dm ll s < ll.length) : CI ll[Dm ll s] s = false := (LF (fun t => CI t s) ll).2 hk
theorem Lx (H : SrtB all) {s : List Int} : (Cx all s).2 = true ↔ s ∈ all := by
 have hc := Hu all s
 unfold Cx
 show (match all[Dm all s]? with | some t => !CI s t | none => false) = true ↔ _
 by_cases hk : Dm all s < all.length
 ·rw [List.getElem?_eq_getElem hk]
  have h1 := Il hk
  show (!CI s all[Dm all s]) = true ↔ _
  constructor
  ·intro h
   have h2 : CI s all[Dm all s] = false := by simpa using h
   have e : all[Dm all s] = s := Classical.byContradiction fun q => by
    rcases JA q with r | r
    ·rw [h1] at r; cases r
    ·rw [h2] at r; cases r
   rw [← e]; exact List.getElem_mem hk
  ·intro h
   obtain ⟨j, hj, rfl⟩ := List.mem_iff_getElem.1 h
   rcases Nat.lt_trichotomy j (Dm all all[j]) with h3 | h3 | h3
   ·have := If all all[j] hj h3
    rw [F3] at this; cases this
   ·have e : all[Dm all all[j]] = all[j] := by congr 1; omega
    rw [e, F3]; rfl
   ·have h4 := List.pairwise_iff_getElem.1 H _ j hk hj h3
    rw [h1] at h4; cases h4
 ·rw [List.getElem?_eq_none (by omega)]
  refine ⟨fun h => (nomatch h), fun h => ?_⟩
  obtain ⟨j, hj, rfl⟩ := List.mem_iff_getElem.1 h
  have := If all all[j] hj (by omega)
  rw [F3] at this; cases this
theorem Oe (H : SrtB all) {j : Nat} (hj : j < all.length) : (Cx all all[j]).1 = j := by
 show Dm all all[j] = j
 have hc := Hu all all[j]
 rcases Nat.lt_trichotomy j (Dm all all[j]) with h3 | h3 | h3
 ·have := If all all[j] hj h3
  rw [F3] at this; cases this
 ·exact h3.symm
 ·have hk : Dm all all[j] < all.length := by omega
  have h4 := List.pairwise_iff_getElem.1 H _ j hk hj h3
  rw [Il hk] at h4; cases h4
def Iz (all : List (List Int)) (s : List Int) : List (List Int) := if (Cx all s).2 then all else all.take (Dm all s) ++ s :: all.drop (Dm all s)
theorem Nm (H : SrtB all) (s : List Int) : SrtB (Iz all s) ∧ ∀ t, t ∈ Iz all s ↔ t = s ∨ t ∈ all := by
 unfold Iz
 by_cases hp : (Cx all s).2 = true
 ·rw [if_pos hp]
  have := (Lx H).1 hp
  exact ⟨H, fun t => ⟨.inr, fun h => by rcases h with rfl | h; exact this; exact h⟩⟩
 ·rw [if_neg hp]
  have hn : s ∉ all := fun h => hp ((Lx H).2 h)
  refine ⟨?_, fun t => ?_⟩
  ·have hlow : ∀ t ∈ all.take (Dm all s), CI t s = true := fun t ht => by
    obtain ⟨j, hj, rfl⟩ := List.mem_iff_getElem.1 ht
    rw [List.getElem_take]
    rw [List.length_take] at hj
    exact If all s (by omega) (by omega)
   have hhigh : ∀ t ∈ all.drop (Dm all s), CI s t = true := fun t ht => by
    obtain ⟨j, hj, rfl⟩ := List.mem_iff_getElem.1 ht
    rw [List.getElem_drop]
    rw [List.length_drop] at hj
    have hk : Dm all s < all.length := by omega
    have h1 := Il hk
    have h2 : CI s all[Dm all s] = true := by
     rcases JA (a := s) (b := all[Dm all s]) (fun q => hn (by rw [q]; exact List.getElem_mem hk)) with r | r
     ·exact r
     ·rw [h1] at r; cases r
    rcases Nat.eq_zero_or_pos j with rfl | h3
    ·exact h2
    ·exact Kf h2 (List.pairwise_iff_getElem.1 H _ (Dm all s + j) hk (by omega) (by omega))
   have hsplit : SrtB (all.take (Dm all s) ++ all.drop (Dm all s)) := by rw [List.take_append_drop]; exact H
   obtain ⟨p1, p2, p3⟩ := List.pairwise_append.1 hsplit
   refine List.pairwise_append.2 ⟨p1, List.pairwise_cons.2 ⟨hhigh, p2⟩, fun a ha b hb => ?_⟩
   rcases List.mem_cons.1 hb with rfl | hb
   ·exact hlow a ha
   ·exact p3 a ha b hb
  ·rw [List.mem_append, List.mem_cons]
   constructor
   ·rintro (h | h | h)
    ·exact .inr (List.mem_of_mem_take h)
    ·exact .inl h
    ·exact .inr (List.mem_of_mem_drop h)
   ·rintro (h | h)
    ·exact .inr (.inl h)
    ·rw [← List.take_append_drop (Dm all s) all] at h
     rcases List.mem_append.1 h with h | h
     ·exact .inl h
     ·exact .inr (.inr h)
theorem T9 (all : List (List Int)) (s : List Int) : (Iz all s).length ≤ all.length + 1 := by
 unfold Iz
 split
 ·omega
 ·rw [List.length_append, List.length_cons, List.length_take, List.length_drop]; have := Hu all s; omega
def DY (s : List Int) (b n : Nat) : List Int := ((List.range n).filter fun k => b.testBit k).map fun k => s.getD k 0
theorem GF (s : List Int) (b n : Nat) : DY s b (n + 1) = DY s b n ++ (if b.testBit n then [s.getD n 0] else []) := by
 unfold DY
 rw [List.range_succ, List.filter_append, List.map_append]
 congr 1
 by_cases h : b.testBit n = true
 ·rw [if_pos h]; simp [h]
 ·rw [if_neg h]; simp [h]
def Cu (all : List (List Int)) (s : List Int) : Nat → List (List Int)
 | 0 => all
 | b + 1 => Iz (Cu all s b) (DY s (b + 1) s.length)
def Ct : List (List Int) → List (List Int) → Option (List (List Int))
 | all, [] => some all
 | all, l :: ll =>
  let a2 := match Ed [] l with
   | some s => Cu all s (2 ^ s.length - 1)
   | none => all
  if 4000 < a2.length then none else Ct a2 ll
theorem DO (H : SrtB all) (s : List Int) : ∀ b, SrtB (Cu all s b)
 | 0 => H
 | b + 1 => (Nm (DO H s b) _).1
theorem Hi (all : List (List Int)) (s : List Int) : ∀ b, (Cu all s b).length ≤ all.length + b
 | 0 => Nat.le_refl _
 | b + 1 => by
  have h1 := Hi all s b
  have h2 := T9 (Cu all s b) (DY s (b + 1) s.length)
  show (Iz _ _).length ≤ _
  omega
def Dh (all : List (List Int)) (i : Nat) : Cl :=
 ⟨(i : Int) + 1, ((all.getD i []).length : Int) - 1, if (all.getD i []).length ≤ 1 then [] else Cp ((List.range (all.getD i []).length).map fun k => (((Cx all ((all.getD i []).eraseIdx k)).1 : Int) + 1, 1 - 2 * ((k : Int) % 2)))⟩
def Dw (ll : List (List Int)) : List Cl := match Ct [] ll with
 | some all => (List.range all.length).map (Dh all)
 | none => []
end Go.Proofs.YtodheebhahdepaaGreat
