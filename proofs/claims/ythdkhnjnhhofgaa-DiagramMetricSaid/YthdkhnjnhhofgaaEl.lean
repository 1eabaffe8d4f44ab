/- What the tables of this program say of its types. -/
import Derived.Test.YthdkhnjnhhofgaaEA
import Derived.Test.YthdkhnjnhhofgaaChecked
import Derived.KernelRfl
namespace Go.Proofs.Ythdkhnjnhhofgaa
open Go.Eng

theorem fol : Try.prog.follows .mixedOrders = true := by kernel_rfl
theorem el3 : Elem Try.prog 3 1 (.int .i64 0) 8 := Elem.of (by kernel_rfl)
theorem el4 : Elem Try.prog 4 1 (.bool false) 1 := Elem.of (by kernel_rfl)
theorem el5 : Elem Try.prog 5 1 (.int .u8 0) 1 := Elem.of (by kernel_rfl)
theorem el23 : Elem Try.prog 23 1 (.slice none 0 0) 24 := Elem.of (by kernel_rfl)
theorem el25 : Elem Try.prog 25 1 (.slice none 0 0) 24 := Elem.of (by kernel_rfl)
theorem el28 : Elem Try.prog 28 2 (.agg #[.slice none 0 0, .slice none 0 0]) 48 := Elem.of (by kernel_rfl)
theorem el38 : Elem Try.prog 38 3 (.agg #[.bool false, .bool false, .bool false]) 3 := Elem.of (by kernel_rfl)
theorem el40 : Elem Try.prog 40 6 (.agg #[.int .i64 0, .int .i64 0, .int .i64 0, .bool false, .int .i64 0, .int .i64 0]) 48 := Elem.of (by kernel_rfl)
theorem el46 : Elem Try.prog 46 4 (.agg #[.slice none 0 0, .slice none 0 0, .slice none 0 0, .slice none 0 0]) 96 := Elem.of (by kernel_rfl)
theorem el50 : Elem Try.prog 50 3 (.agg #[.int .i64 0, .int .i64 0, .int .i64 0]) 24 := Elem.of (by kernel_rfl)
theorem el61 : Elem Try.prog 61 1 (.nilFunc) 8 := Elem.of (by kernel_rfl)
theorem el63 : Elem Try.prog 63 2 (.agg #[.int .u8 0, .int .u8 0]) 2 := Elem.of (by kernel_rfl)
theorem el64 : Elem Try.prog 64 1 (.map none) 8 := Elem.of (by kernel_rfl)
theorem el70 : Elem Try.prog 70 1 (.nilFunc) 8 := Elem.of (by kernel_rfl)
theorem el72 : Elem Try.prog 72 1 (.slice none 0 0) 24 := Elem.of (by kernel_rfl)
theorem el88 : Elem Try.prog 88 1 (.int .u64 0) 8 := Elem.of (by kernel_rfl)
theorem st40 : Strct Try.prog 40 #[(0, 1), (1, 1), (2, 1), (3, 1), (4, 1), (5, 1)] := ⟨_, Try.underlying40, fun w => by kernel_rfl⟩
theorem fd40_0 : Fld Try.prog 40 0 0 := ⟨_, _, _, Try.underlying40, rfl, rfl, Try.sizeOf3⟩
theorem fd40_1 : Fld Try.prog 40 1 1 := ⟨_, _, _, Try.underlying40, rfl, rfl, Try.sizeOf3⟩
theorem fd40_2 : Fld Try.prog 40 2 2 := ⟨_, _, _, Try.underlying40, rfl, rfl, Try.sizeOf3⟩
theorem fd40_3 : Fld Try.prog 40 3 3 := ⟨_, _, _, Try.underlying40, rfl, rfl, Try.sizeOf4⟩
theorem fd40_4 : Fld Try.prog 40 4 4 := ⟨_, _, _, Try.underlying40, rfl, rfl, Try.sizeOf3⟩
theorem fd40_5 : Fld Try.prog 40 5 5 := ⟨_, _, _, Try.underlying40, rfl, rfl, Try.sizeOf3⟩
end Go.Proofs.Ythdkhnjnhhofgaa
