/- Plain: either everyone has a partner, or someone finds none. -/
import Derived.Test.YthdkhnjnhhofgaaKq
set_option linter.unusedVariables false
namespace Go.Kuhn

theorem kuhn_ex (F : Nat → Nat → Bool) (nl n : Nat) (N : Nat) : ∀ (i : Nat) (seen : List Bool) (part : List Int), unseen seen ≤ N → i < nl → seen.length = n → part.length = n → KPre F nl part →
    (∃ seen' part', KT F nl i seen part seen' part') ∨ ∃ seen', LI F i n n seen part seen' := by
  induction N using Nat.strongRecOn with
  | _ N ih =>
  intro i seen part hN hi hsl hpl hK
  have go : ∀ q k seen1, n - k ≤ q → k ≤ n → LI F i n k seen part seen1 → (∃ seen' part', KT F nl i seen part seen' part') ∨ ∃ seen', LI F i n n seen part seen' := by
    intro q
    induction q with
    | zero => intro k seen1 hq hk hL; have : k = n := by omega
              subst this; exact .inr ⟨_, hL⟩
    | succ q ihq =>
      intro k seen1 hq hk hL
      rcases Nat.lt_or_ge k n with hkn | hkn
      · have hks : k < seen1.length := by rw [hL.slen]; omega
        have hkp : k < part.length := by omega
        cases hsk : seen1[k] with
        | true => exact ihq (k + 1) seen1 (by omega) (by omega) (hL.skip (.inl (by rw [List.getElem?_eq_getElem hks, hsk])))
        | false =>
          cases hf : F i k with
          | false => exact ihq (k + 1) seen1 (by omega) (by omega) (hL.skip (.inr hf))
          | true =>
            have h0 : seen1[k]? ≠ some true := by rw [List.getElem?_eq_getElem hks, hsk]; simp
            rcases hK k hkp with h1 | ⟨p, hp, hpn, hpf⟩
            · exact .inl ⟨_, _, hL.free hK hi hkp hks h0 hf (by omega)⟩
            · have hp' : part[k]? = some (p : Int) := by rw [List.getElem?_eq_getElem hkp, hp]
              have u1 := unseen_set seen1 k hks hsk
              have u2 := unseen_mono seen seen1 hL.slen hL.mono
              rcases ih (unseen (seen1.set k true)) (by omega) p (seen1.set k true) part (Nat.le_refl _) hpn (by rw [List.length_set, hL.slen]; exact hsl) hpl hK with ⟨s', p', hT⟩ | ⟨s', hLF⟩
              · exact .inl ⟨_, _, hL.moved hi hkp hks h0 hf hp' hT⟩
              · exact ihq (k + 1) s' (by omega) (by omega) (hL.fail hks hp' hLF)
      · have : k = n := by omega
        subst this; exact .inr ⟨_, hL⟩
  exact go n 0 seen (by omega) (by omega) LI.start

theorem pos_or_neg (F : Nat → Nat → Bool) (n : Nat) : Pos F n ∨ Neg F n := by
  have go : ∀ i, i ≤ n → (∃ part : List Int, part.length = n ∧ KPre F n part ∧ ∀ x : Nat, part.count (x : Int) = if x < i then 1 else 0) ∨ Neg F n := by
    intro i
    induction i with
    | zero => exact fun _ => .inl ⟨List.replicate n (-1), by simp, fun k hk => .inl (by simp), fun x => by rw [List.count_replicate, if_neg (by simp), if_neg (by omega)]⟩
    | succ i ih =>
      intro hi
      rcases ih (by omega) with ⟨part, h1, h2, h3⟩ | h
      · rcases kuhn_ex F n n _ i (List.replicate n false) part (Nat.le_refl _) (by omega) (by simp) h1 h2 with ⟨s', p', hT⟩ | ⟨s', hL⟩
        · refine .inl ⟨p', by rw [hT.plen, h1], hT.pre, fun x => ?_⟩
          rw [hT.cnt x, h3 x]
          by_cases g1 : x < i
          · rw [if_pos g1, if_neg (by omega), if_pos (by omega)]
          · by_cases g2 : x = i
            · rw [if_neg g1, if_pos g2, if_pos (by omega)]
            · rw [if_neg g1, if_neg g2, if_neg (by omega)]
        · exact .inr ⟨i, part, s', by omega, h1, h2, h3, hL⟩
      · exact .inr h
  rcases go n (Nat.le_refl _) with ⟨part, h1, h2, h3⟩ | h
  · exact .inl ⟨part, h1, h2, fun x hx => by rw [h3 x, if_pos hx]⟩
  · exact .inr h
end Go.Kuhn
