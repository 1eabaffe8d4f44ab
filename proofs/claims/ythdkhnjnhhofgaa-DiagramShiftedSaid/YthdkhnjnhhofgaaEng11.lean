/- The engine, part 11: bits; contracts of the kit's shelf. -/
import Derived.Test.YthdkhnjnhhofgaaEng10
import Derived.Sort.LotD5
import Derived.Sort.Walk13a
import Derived.Lib.BitFns
set_option linter.unusedSimpArgs false
set_option linter.unusedVariables false
namespace Go.Eng
open Go.RowKit

/-- A contract of the shelf that leaves the world. -/
theorem FnV.ofCalls {P : Program} {f : FuncId} {args : Array Value} {h : Hp} {ms : List Hp} {v : Value} (k : ∀ w, Calls P f args w (fun e w' => e = .returned v ∧ w' = w)) : FnV P f args h ms v :=
  fun w hw => (k w).mono fun x w' ⟨e1, e2⟩ => ⟨e1, by rw [e2]; exact Below.refl _ _⟩

theorem wrap_u64 {n : Int} (hn : 0 ≤ n ∧ n ≤ 18446744073709551615) : IntKind.u64.wrap n = n := IntWalk.u64_in n hn

section
variable {P : Program} {o : Oper} {s : Slots} {h : Hp} {ms : List Hp} {t u : TypeId} {x y : Operand} {a b n : Nat} {k : IntKind}
theorem ox_shlU (ho : o.op = .binOp .shl t x y u) (hx : ev s x = some (.int .u64 a)) (hy : ev s y = some (.int k n)) (hn : n ≤ 64) : OX P o s h ms (.int .u64 ((a * 2 ^ n % 18446744073709551616 : Nat) : Int)) :=
  ox_of fun ρ w hρ _ => by
    have h1 : ¬ ((n : Int) < 0) := by omega
    have h2 : min n 64 = n := Nat.min_eq_left hn
    have h3 : IntKind.u64.wrap ((a : Int) * 2 ^ n) = ((a * 2 ^ n % 18446744073709551616 : Nat) : Int) := by
      simp [IntKind.wrap, IntKind.bits, IntKind.signed]
    simp [execOp, ho, hρ _ _ hx, hρ _ _ hy, Op.shift, h1, IntKind.bits, h2, h3, go_sem]
theorem ox_shrU (ho : o.op = .binOp .shr t x y u) (hx : ev s x = some (.int .u64 a)) (hy : ev s y = some (.int k n)) (hn : n ≤ 64) : OX P o s h ms (.int .u64 ((a / 2 ^ n : Nat) : Int)) :=
  ox_of fun ρ w hρ _ => by
    have h1 : ¬ ((n : Int) < 0) := by omega
    have h2 : min n 64 = n := Nat.min_eq_left hn
    have h3 : (a : Int).fdiv (2 ^ n) = ((a / 2 ^ n : Nat) : Int) := by
      rw [Int.fdiv_eq_ediv_of_nonneg _ (Int.le_of_lt (Int.pow_pos (by decide)))]; simp
    simp [execOp, ho, hρ _ _ hx, hρ _ _ hy, Op.shift, h1, IntKind.bits, h2, h3, go_sem]
theorem ox_xorU (ho : o.op = .binOp .xor t x y u) (hx : ev s x = some (.int .u64 a)) (hy : ev s y = some (.int .u64 b)) (ha : a < 18446744073709551616) (hb : b < 18446744073709551616) : OX P o s h ms (.int .u64 ((a ^^^ b : Nat) : Int)) :=
  ox_of fun ρ w hρ _ => by
    have h0 : a ^^^ b < 2 ^ 64 := Nat.xor_lt_two_pow (by omega) (by omega)
    have h3 : IntKind.u64.wrap (((BitVec.ofNat 64 a) ^^^ (BitVec.ofNat 64 b)).toNat : Int) = ((a ^^^ b : Nat) : Int) := by
      rw [BitVec.toNat_xor, BitVec.toNat_ofNat, BitVec.toNat_ofNat, Nat.mod_eq_of_lt (by omega), Nat.mod_eq_of_lt (by omega)]
      exact wrap_u64 (by omega)
    simp [execOp, ho, hρ _ _ hx, hρ _ _ hy, Op.intBits, IntKind.bits, go_sem]
    exact h3
theorem ox_andU (ho : o.op = .binOp .and t x y u) (hx : ev s x = some (.int .u64 a)) (hy : ev s y = some (.int .u64 b)) (ha : a < 18446744073709551616) (hb : b < 18446744073709551616) : OX P o s h ms (.int .u64 ((a &&& b : Nat) : Int)) :=
  ox_of fun ρ w hρ _ => by
    have h0 : a &&& b ≤ a := Nat.and_le_left
    have h3 : IntKind.u64.wrap (((BitVec.ofNat 64 a) &&& (BitVec.ofNat 64 b)).toNat : Int) = ((a &&& b : Nat) : Int) := by
      rw [BitVec.toNat_and, BitVec.toNat_ofNat, BitVec.toNat_ofNat, Nat.mod_eq_of_lt (by omega), Nat.mod_eq_of_lt (by omega)]
      exact wrap_u64 (by omega)
    simp [execOp, ho, hρ _ _ hx, hρ _ _ hy, Op.intBits, IntKind.bits, go_sem]
    exact h3
end

theorem bitLenAux_eq : ∀ (f x : Nat), x < 2 ^ f → Lib.bitLenAux f x = Sort.bitsLen x
  | 0, x, h => by have : x = 0 := by omega
                  subst this; rfl
  | f + 1, x, h => by
    unfold Lib.bitLenAux
    split
    · rename_i h0; subst h0; rfl
    · rename_i h0
      rw [bitLenAux_eq f (x / 2) (by rw [Nat.pow_succ] at h; omega)]
      unfold Sort.bitsLen
      rw [if_neg h0]
      by_cases h1 : x / 2 = 0
      · have : x = 1 := by omega
        subst this; rfl
      · rw [if_neg h1]
        have h2 : 2 ≤ x := by omega
        conv => rhs; rw [Nat.log2_def]
        rw [if_pos h2]; omega
theorem bitLen_eq (x : Nat) (h : x < 18446744073709551616) : Lib.bitLen x = Sort.bitsLen x := bitLenAux_eq 64 x (by simpa using h)
end Go.Eng
