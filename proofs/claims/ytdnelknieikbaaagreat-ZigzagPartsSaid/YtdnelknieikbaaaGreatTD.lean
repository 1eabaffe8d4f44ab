/- Parts of the proof: ZEl Za Zb Zc Zd Ze Zf Zg Zh Zi Lg Zj Zk Zl Zm Zn. -/
import Derived.Test.YtdnelknieikbaaaGreatTC
import Derived.Test.YtdnelknieikbaaaGreatChecked
import Derived.KernelRfl
set_option linter.unusedSimpArgs false
set_option linter.unusedVariables false
namespace Go.Proofs.YtdnelknieikbaaaGreat
open Go.Eng
theorem fol : Tryz.prog.follows .mixedOrders = true := by kernel_rfl
theorem el3 : Elem Tryz.prog 3 1 (.int .i64 0) 8 := Elem.of (by kernel_rfl)
theorem el5 : Elem Tryz.prog 5 1 (.int .u8 0) 1 := Elem.of (by kernel_rfl)
theorem el24 : Elem Tryz.prog 24 1 (.slice none 0 0) 24 := Elem.of (by kernel_rfl)
theorem el26 : Elem Tryz.prog 26 5 (.agg #[.int .u8 0, .slice none 0 0, .int .u16 0, .slice none 0 0, .bool false]) 72 := Elem.of (by kernel_rfl)
theorem el28 : Elem Tryz.prog 28 1 (.slice none 0 0) 24 := Elem.of (by kernel_rfl)
theorem el30 : Elem Tryz.prog 30 3 (.agg #[.int .i64 0, .slice none 0 0, .slice none 0 0]) 56 := Elem.of (by kernel_rfl)
theorem el37 : Elem Tryz.prog 37 3 (.agg #[.int .i64 0, .int .i64 0, .int .i64 0]) 24 := Elem.of (by kernel_rfl)
theorem el42 : Elem Tryz.prog 42 4 (.agg #[.int .i64 0, .int .i64 0, .int .i64 0, .slice none 0 0]) 48 := Elem.of (by kernel_rfl)
theorem el45 : Elem Tryz.prog 45 5 (.agg #[.bool false, .int .i64 0, .int .i64 0, .int .i64 0, .slice none 0 0]) 56 := Elem.of (by kernel_rfl)
theorem el51 : Elem Tryz.prog 51 1 (.map none) 8 := Elem.of (by kernel_rfl)
theorem el53 : Elem Tryz.prog 53 2 (.agg #[.int .i64 0, .int .i64 0]) 16 := Elem.of (by kernel_rfl)
theorem el62 : Elem Tryz.prog 62 1 (.slice none 0 0) 24 := Elem.of (by kernel_rfl)
theorem el64 : Elem Tryz.prog 64 3 (.agg #[.int .i64 0, .int .i64 0, .slice none 0 0]) 40 := Elem.of (by kernel_rfl)
theorem el81 : Elem Tryz.prog 81 1 (.slice none 0 0) 24 := Elem.of (by kernel_rfl)
theorem el106 : Elem Tryz.prog 106 1 (.slice none 0 0) 24 := Elem.of (by kernel_rfl)
theorem el108 : Elem Tryz.prog 108 1 (.pointer none) 8 := Elem.of (by kernel_rfl)
theorem el110 : Elem Tryz.prog 110 3 (.agg #[.int .i64 0, .int .i64 0, .slice none 0 0]) 40 := Elem.of (by kernel_rfl)
theorem el132 : Elem Tryz.prog 132 4 (.agg #[.int .i64 0, .int .i64 0, .slice none 0 0, .slice none 0 0]) 64 := Elem.of (by kernel_rfl)
theorem el147 : Elem Tryz.prog 147 1 (.map none) 8 := Elem.of (by kernel_rfl)
theorem el184 : Elem Tryz.prog 184 1002 (.agg #[.int .i64 0, .int .i64 0, .int .i64 0, .slice none 0 0, .int .i64 0, .int .i64 0, .int .i64 0, .int .i64 0, .int .i64 0, .int .i64 0, .int .i64 0, .int .i64 0, .int .i64 0, .int .i64 0, .int .i64 0, .int .i64 0, .int .i64 0, .int .i64 0, .int .i64 0, .int .i64 0, .int .i64 0, .int .i64 0, .int .i64 0, .int .i64 0, .int .i64 0, .int .i64 0, .int .i64 0, .int .i64 0, .int .i64 0, .int .i64 0, .int .i64 0, .int .i64 0, .int .i64 0, .int .i64 0, .int .i64 0, .int .i64 0, .int .i64 0, .int .i64 0, .int .i64 0, .int .i64 0, .int .i64 0, .int .i64 0, .int .i64 0, .int .i64 0, .int .i64 0, .int .i64 0, .int .i64 0, .int .i64 0, .int .i64 0, .int .i64 0, .int .i64 0, .int .i64 0, .int .i64 0, .int .i64 0, .int .i64 0, .int .i64 0, .int .i64 0, .int .i64 0, .int .i64 0, .int .i64 0, .int .i64 0, .int .i64 0, .int .i64 0, .int .i64 0, .int .i64 0, .int .i64 0, .int .i64 0, .int .i64 0, .int .i64 0, .int .i64 0, .int .i64 0, .int .i64 0, .int .i64 0, .int .i64 0, .int .i64 0, .int .i64 0, .int .i64 0, .int .i64 0, .int .i64 0, .int .i64 0, .int .i64 0, .int .i64 0, .int .i64 0, .int .i64 0, .int .i64 0, .int .i64 0, .int .i64 0, .int .i64 0, .int .i64 0, .int .i64 0, .int .i64 0, .int .i64 0, .int .i64 0, .int .i64 0, .int .i64 0, .int .i64 0, .int .i64 0, .int .i64 0, .int .i64 0, .int .i64 0, .int .i64 0, .int .i64 0, .int .i64 0, .int .i64 0, .int .i64 0, .int .i64 0, .int .i64 0, .int .i64 0, .int .i64 0, .int .i64 0, .int .i64 0, .int .i64 0, .int .i64 0, .int .i64 0, .int .i64 0, .int .i64 0, .int .i64 0, .int .i64 0, .int .i64 0, .int .i64 0, .int .i64 0, .int .i64 0, .int .i64 0, .int .i64 0, .int .i64 0, .int .i64 0, .int .i64 0, .int .i64 0, .int .i64 0, .int .i64 0, .int .i64 0, .int .i64 0, .int .i64 0, .int .i64 0, .int .i64 0, .int .i64 0, .int .i64 0, .int .i64 0, .int .i64 0, .int .i64 0, .int .i64 0, .int .i64 0, .int .i64 0, .int .i64 0, .int .i64 0, .int .i64 0, .int .i64 0, .int .i64 0, .int .i64 0, .int .i64 0, .int .i64 0, .int .i64 0, .int .i64 0, .int .i64 0, .int .i64 0, .int .i64 0, .int .i64 0, .int .i64 0, .int .i64 0, .int .i64 0, .int .i64 0, .int .i64 0, .int .i64 0, .int .i64 0, .int .i64 0, .int .i64 0, .int .i64 0, .int .i64 0, .int .i64 0, .int .i64 0, .int .i64 0, .int .i64 0, .int .i64 0, .int .i64 0, .int .i64 0, .int .i64 0, .int .i64 0, .int .i64 0, .int .i64 0, .int .i64 0, .int .i64 0, .int .i64 0, .int .i64 0, .int .i64 0, .int .i64 0, .int .i64 0, .int .i64 0, .int .i64 0, .int .i64 0, .int .i64 0, .int .i64 0, .int .i64 0, .int .i64 0, .int .i64 0, .int .i64 0, .int .i64 0, .int .i64 0, .int .i64 0, .int .i64 0, .int .i64 0, .int .i64 0, .int .i64 0, .int .i64 0, .int .i64 0, .int .i64 0, .int .i64 0, .int .i64 0, .int .i64 0, .int .i64 0, .int .i64 0, .int .i64 0, .int .i64 0, .int .i64 0, .int .i64 0, .int .i64 0, .int .i64 0, .int .i64 0, .int .i64 0, .int .i64 0, .int .i64 0, .int .i64 0, .int .i64 0, .int .i64 0, .int .i64 0, .int .i64 0, .int .i64 0, .int .i64 0, .int .i64 0, .int .i64 0, .int .i64 0, .int .i64 0, .int .i64 0, .int .i64 0, .int .i64 0, .int .i64 0, .int .i64 0, .int .i64 0, .int .i64 0, .int .i64 0, .int .i64 0, .int .i64 0, .int .i64 0, .int .i64 0, .int .i64 0, .int .i64 0, .int .i64 0, .int .i64 0, .int .i64 0, .int .i64 0, .int .i64 0, .int .i64 0, .int .i64 0, .int .i64 0, .int .i64 0, .int .i64 0, .int .i64 0, .int .i64 0, .int .i64 0, .int .i64 0, .int .i64 0, .int .i64 0, .int .i64 0, .int .i64 0, .int .i64 0, .int .i64 0, .int .i64 0, .int .i64 0, .int .i64 0, .int .i64 0, .int .i64 0, .int .i64 0, .int .i64 0, .int .i64 0, .int .i64 0, .int .i64 0, .int .i64 0, .int .i64 0, .int .i64 0, .int .i64 0, .int .i64 0, .int .i64 0, .int .i64 0, .int .i64 0, .int .i64 0, .int .i64 0, .int .i64 0, .int .i64 0, .int .i64 0, .int .i64 0, .int .i64 0, .int .i64 0, .int .i64 0, .int .i64 0, .int .i64 0, .int .i64 0, .int .i64 0, .int .i64 0, .int .i64 0, .int .i64 0, .int .i64 0, .int .i64 0, .int .i64 0, .int .i64 0, .int .i64 0, .int .i64 0, .int .i64 0, .int .i64 0, .int .i64 0, .int .i64 0, .int .i64 0, .int .i64 0, .int .i64 0, .int .i64 0, .int .i64 0, .int .i64 0, .int .i64 0, .int .i64 0, .int .i64 0, .int .i64 0, .int .i64 0, .int .i64 0, .int .i64 0, .int .i64 0, .int .i64 0, .int .i64 0, .int .i64 0, .int .i64 0, .int .i64 0, .int .i64 0, .int .i64 0, .int .i64 0, .int .i64 0, .int .i64 0, .int .i64 0, .int .i64 0, .int .i64 0, .int .i64 0, .int .i64 0, .int .i64 0, .int .i64 0, .int .i64 0, .int .i64 0, .int .i64 0, .int .i64 0, .int .i64 0, .int .i64 0, .int .i64 0, .int .i64 0, .int .i64 0, .int .i64 0, .int .i64 0, .int .i64 0, .int .i64 0, .int .i64 0, .int .i64 0, .int .i64 0, .int .i64 0, .int .i64 0, .int .i64 0, .int .i64 0, .int .i64 0, .int .i64 0, .int .i64 0, .int .i64 0, .int .i64 0, .int .i64 0, .int .i64 0, .int .i64 0, .int .i64 0, .int .i64 0, .int .i64 0, .int .i64 0, .int .i64 0, .int .i64 0, .int .i64 0, .int .i64 0, .int .i64 0, .int .i64 0, .int .i64 0, .int .i64 0, .int .i64 0, .int .i64 0, .int .i64 0, .int .i64 0, .int .i64 0, .int .i64 0, .int .i64 0, .int .i64 0, .int .i64 0, .int .i64 0, .int .i64 0, .int .i64 0, .int .i64 0, .int .i64 0, .int .i64 0, .int .i64 0, .int .i64 0, .int .i64 0, .int .i64 0, .int .i64 0, .int .i64 0, .int .i64 0, .int .i64 0, .int .i64 0, .int .i64 0, .int .i64 0, .int .i64 0, .int .i64 0, .int .i64 0, .int .i64 0, .int .i64 0, .int .i64 0, .int .i64 0, .int .i64 0, .int .i64 0, .int .i64 0, .int .i64 0, .int .i64 0, .int .i64 0, .int .i64 0, .int .i64 0, .int .i64 0, .int .i64 0, .int .i64 0, .int .i64 0, .int .i64 0, .int .i64 0, .int .i64 0, .int .i64 0, .int .i64 0, .int .i64 0, .int .i64 0, .int .i64 0, .int .i64 0, .int .i64 0, .int .i64 0, .int .i64 0, .int .i64 0, .int .i64 0, .int .i64 0, .int .i64 0, .int .i64 0, .int .i64 0, .int .i64 0, .int .i64 0, .int .i64 0, .int .i64 0, .int .i64 0, .int .i64 0, .int .i64 0, .int .i64 0, .int .i64 0, .int .i64 0, .int .i64 0, .int .i64 0, .int .i64 0, .int .i64 0, .int .i64 0, .int .i64 0, .int .i64 0, .int .i64 0, .int .i64 0, .int .i64 0, .int .i64 0, .int .i64 0, .int .i64 0, .int .i64 0, .int .i64 0, .int .i64 0, .int .i64 0, .int .i64 0, .int .i64 0, .int .i64 0, .int .i64 0, .int .i64 0, .int .i64 0, .int .i64 0, .int .i64 0, .int .i64 0, .int .i64 0, .int .i64 0, .int .i64 0, .int .i64 0, .int .i64 0, .int .i64 0, .int .i64 0, .int .i64 0, .int .i64 0, .int .i64 0, .int .i64 0, .int .i64 0, .int .i64 0, .int .i64 0, .int .i64 0, .int .i64 0, .int .i64 0, .int .i64 0, .int .i64 0, .int .i64 0, .int .i64 0, .int .i64 0, .int .i64 0, .int .i64 0, .int .i64 0, .int .i64 0, .int .i64 0, .int .i64 0, .int .i64 0, .int .i64 0, .int .i64 0, .int .i64 0, .int .i64 0, .int .i64 0, .int .i64 0, .int .i64 0, .int .i64 0, .int .i64 0, .int .i64 0, .int .i64 0, .int .i64 0, .int .i64 0, .int .i64 0, .int .i64 0, .int .i64 0, .int .i64 0, .int .i64 0, .int .i64 0, .int .i64 0, .int .i64 0, .int .i64 0, .int .i64 0, .int .i64 0, .int .i64 0, .int .i64 0, .int .i64 0, .int .i64 0, .int .i64 0, .int .i64 0, .int .i64 0, .int .i64 0, .int .i64 0, .int .i64 0, .int .i64 0, .int .i64 0, .int .i64 0, .int .i64 0, .int .i64 0, .int .i64 0, .int .i64 0, .int .i64 0, .int .i64 0, .int .i64 0, .int .i64 0, .int .i64 0, .int .i64 0, .int .i64 0, .int .i64 0, .int .i64 0, .int .i64 0, .int .i64 0, .int .i64 0, .int .i64 0, .int .i64 0, .int .i64 0, .int .i64 0, .int .i64 0, .int .i64 0, .int .i64 0, .int .i64 0, .int .i64 0, .int .i64 0, .int .i64 0, .int .i64 0, .int .i64 0, .int .i64 0, .int .i64 0, .int .i64 0, .int .i64 0, .int .i64 0, .int .i64 0, .int .i64 0, .int .i64 0, .int .i64 0, .int .i64 0, .int .i64 0, .int .i64 0, .int .i64 0, .int .i64 0, .int .i64 0, .int .i64 0, .int .i64 0, .int .i64 0, .int .i64 0, .int .i64 0, .int .i64 0, .int .i64 0, .int .i64 0, .int .i64 0, .int .i64 0, .int .i64 0, .int .i64 0, .int .i64 0, .int .i64 0, .int .i64 0, .int .i64 0, .int .i64 0, .int .i64 0, .int .i64 0, .int .i64 0, .int .i64 0, .int .i64 0, .int .i64 0, .int .i64 0, .int .i64 0, .int .i64 0, .int .i64 0, .int .i64 0, .int .i64 0, .int .i64 0, .int .i64 0, .int .i64 0, .int .i64 0, .int .i64 0, .int .i64 0, .int .i64 0, .int .i64 0, .int .i64 0, .int .i64 0, .int .i64 0, .int .i64 0, .int .i64 0, .int .i64 0, .int .i64 0, .int .i64 0, .int .i64 0, .int .i64 0, .int .i64 0, .int .i64 0, .int .i64 0, .int .i64 0, .int .i64 0, .int .i64 0, .int .i64 0, .int .i64 0, .int .i64 0, .int .i64 0, .int .i64 0, .int .i64 0, .int .i64 0, .int .i64 0, .int .i64 0, .int .i64 0, .int .i64 0, .int .i64 0, .int .i64 0, .int .i64 0, .int .i64 0, .int .i64 0, .int .i64 0, .int .i64 0, .int .i64 0, .int .i64 0, .int .i64 0, .int .i64 0, .int .i64 0, .int .i64 0, .int .i64 0, .int .i64 0, .int .i64 0, .int .i64 0, .int .i64 0, .int .i64 0, .int .i64 0, .int .i64 0, .int .i64 0, .int .i64 0, .int .i64 0, .int .i64 0, .int .i64 0, .int .i64 0, .int .i64 0, .int .i64 0, .int .i64 0, .int .i64 0, .int .i64 0, .int .i64 0, .int .i64 0, .int .i64 0, .int .i64 0, .int .i64 0, .int .i64 0, .int .i64 0, .int .i64 0, .int .i64 0, .int .i64 0, .int .i64 0, .int .i64 0, .int .i64 0, .int .i64 0, .int .i64 0, .int .i64 0, .int .i64 0, .int .i64 0, .int .i64 0, .int .i64 0, .int .i64 0, .int .i64 0, .int .i64 0, .int .i64 0, .int .i64 0, .int .i64 0, .int .i64 0, .int .i64 0, .int .i64 0, .int .i64 0, .int .i64 0, .int .i64 0, .int .i64 0, .int .i64 0, .int .i64 0, .int .i64 0, .int .i64 0, .int .i64 0, .int .i64 0, .int .i64 0, .int .i64 0, .int .i64 0, .int .i64 0, .int .i64 0, .int .i64 0, .int .i64 0, .int .i64 0, .int .i64 0, .int .i64 0, .int .i64 0, .int .i64 0, .int .i64 0, .int .i64 0, .int .i64 0, .int .i64 0, .int .i64 0, .int .i64 0, .int .i64 0, .int .i64 0, .int .i64 0, .int .i64 0, .int .i64 0, .int .i64 0, .int .i64 0, .int .i64 0, .int .i64 0, .int .i64 0, .int .i64 0, .int .i64 0, .int .i64 0, .int .i64 0, .int .i64 0, .int .i64 0, .int .i64 0, .int .i64 0, .int .i64 0, .int .i64 0, .int .i64 0, .int .i64 0, .int .i64 0, .int .i64 0, .int .i64 0, .int .i64 0, .int .i64 0, .int .i64 0, .int .i64 0, .int .i64 0, .int .i64 0, .int .i64 0, .int .i64 0, .int .i64 0, .int .i64 0, .int .i64 0, .int .i64 0, .int .i64 0, .int .i64 0, .int .i64 0, .int .i64 0, .int .i64 0, .int .i64 0, .int .i64 0, .int .i64 0, .int .i64 0, .int .i64 0, .int .i64 0, .int .i64 0, .int .i64 0, .int .i64 0, .int .i64 0, .int .i64 0, .int .i64 0, .int .i64 0, .int .i64 0, .int .i64 0, .int .i64 0, .int .i64 0, .int .i64 0, .int .i64 0, .int .i64 0, .int .i64 0, .int .i64 0, .int .i64 0, .int .i64 0, .int .i64 0, .int .i64 0, .int .i64 0, .int .i64 0, .int .i64 0, .int .i64 0, .int .i64 0, .int .i64 0, .int .i64 0, .int .i64 0, .int .i64 0, .int .i64 0, .int .i64 0, .int .i64 0, .int .i64 0, .int .i64 0, .int .i64 0, .int .i64 0, .int .i64 0, .int .i64 0, .int .i64 0, .int .i64 0, .int .i64 0, .int .i64 0, .int .i64 0, .int .i64 0, .int .i64 0, .int .i64 0, .int .i64 0, .int .i64 0, .int .i64 0, .int .i64 0, .int .i64 0, .int .i64 0, .int .i64 0, .int .i64 0, .int .i64 0, .int .i64 0, .int .i64 0, .int .i64 0, .int .i64 0, .int .i64 0, .int .i64 0, .int .i64 0, .int .i64 0, .int .i64 0, .int .i64 0, .int .i64 0, .int .i64 0, .int .i64 0, .int .i64 0, .int .i64 0, .int .i64 0, .int .i64 0, .int .i64 0, .int .i64 0, .int .i64 0, .int .i64 0, .int .i64 0, .int .i64 0, .int .i64 0, .int .i64 0, .int .i64 0, .int .i64 0, .int .i64 0, .int .i64 0, .int .i64 0, .int .i64 0, .int .i64 0, .int .i64 0, .int .i64 0, .int .i64 0, .int .i64 0, .int .i64 0, .int .i64 0, .int .i64 0, .int .i64 0, .int .i64 0, .int .i64 0, .int .i64 0, .int .i64 0, .int .i64 0, .int .i64 0, .int .i64 0, .int .i64 0, .int .i64 0, .int .i64 0, .int .i64 0, .int .i64 0, .int .i64 0, .int .i64 0, .int .i64 0, .int .i64 0, .int .i64 0, .int .i64 0, .int .i64 0, .int .i64 0, .int .i64 0, .int .i64 0, .int .i64 0, .int .i64 0, .int .i64 0, .int .i64 0, .int .i64 0, .int .i64 0, .int .i64 0, .int .i64 0, .int .i64 0, .int .i64 0, .int .i64 0, .int .i64 0, .int .i64 0, .int .i64 0, .int .i64 0, .int .i64 0, .int .i64 0, .int .i64 0, .int .i64 0, .int .i64 0, .int .i64 0, .int .i64 0, .int .i64 0, .int .i64 0, .int .i64 0, .int .i64 0, .int .i64 0, .int .i64 0, .int .i64 0, .int .i64 0, .int .i64 0, .int .i64 0, .int .i64 0, .int .i64 0, .int .i64 0, .int .i64 0, .int .i64 0, .int .i64 0, .int .i64 0, .int .i64 0, .int .i64 0, .int .i64 0, .int .i64 0, .int .i64 0, .int .i64 0, .int .i64 0, .int .i64 0, .int .i64 0, .int .i64 0, .int .i64 0, .int .i64 0, .int .i64 0, .int .i64 0, .int .i64 0, .int .i64 0, .int .i64 0, .int .i64 0, .int .i64 0, .int .i64 0, .int .i64 0, .int .i64 0, .int .i64 0, .int .i64 0, .int .i64 0, .int .i64 0, .int .i64 0, .int .i64 0, .int .i64 0, .int .i64 0, .int .i64 0, .int .i64 0, .int .i64 0, .int .i64 0, .int .i64 0, .int .i64 0, .int .i64 0, .int .i64 0, .int .i64 0, .int .i64 0, .int .i64 0, .int .i64 0, .int .i64 0, .int .i64 0, .int .i64 0, .int .i64 0, .int .i64 0, .int .i64 0, .int .i64 0, .int .i64 0, .int .i64 0, .int .i64 0, .int .i64 0, .int .i64 0, .int .i64 0, .int .i64 0]) 8032 := Elem.of (by kernel_rfl)
theorem el190 : Elem Tryz.prog 190 3 (.agg #[.slice none 0 0, .int .i64 0, .int .i64 0]) 40 := Elem.of (by kernel_rfl)
theorem st30 : Strct Tryz.prog 30 #[(0, 1), (1, 1), (2, 1)] := ⟨_, Tryz.underlying30, fun w => by kernel_rfl⟩
theorem st37 : Strct Tryz.prog 37 #[(0, 1), (1, 1), (2, 1)] := ⟨_, Tryz.underlying37, fun w => by kernel_rfl⟩
theorem st42 : Strct Tryz.prog 42 #[(0, 1), (1, 1), (2, 1), (3, 1)] := ⟨_, Tryz.underlying42, fun w => by kernel_rfl⟩
theorem st45 : Strct Tryz.prog 45 #[(0, 1), (1, 4)] := ⟨_, Tryz.underlying45, fun w => by kernel_rfl⟩
theorem st64 : Strct Tryz.prog 64 #[(0, 1), (1, 1), (2, 1)] := ⟨_, Tryz.underlying64, fun w => by kernel_rfl⟩
theorem st110 : Strct Tryz.prog 110 #[(0, 3)] := ⟨_, Tryz.underlying110, fun w => by kernel_rfl⟩
theorem st132 : Strct Tryz.prog 132 #[(0, 1), (1, 1), (2, 1), (3, 1)] := ⟨_, Tryz.underlying132, fun w => by kernel_rfl⟩
theorem st184 : Strct Tryz.prog 184 #[(0, 4), (4, 998)] := ⟨_, Tryz.underlying184, fun w => by kernel_rfl⟩
theorem st190 : Strct Tryz.prog 190 #[(0, 1), (1, 1), (2, 1)] := ⟨_, Tryz.underlying190, fun w => by kernel_rfl⟩
theorem fd26_0 : Fld Tryz.prog 26 0 0 := ⟨_, _, _, Tryz.underlying26, rfl, rfl, Tryz.sizeOf5⟩
theorem fd26_1 : Fld Tryz.prog 26 1 1 := ⟨_, _, _, Tryz.underlying26, rfl, rfl, Tryz.sizeOf22⟩
theorem fd26_2 : Fld Tryz.prog 26 2 2 := ⟨_, _, _, Tryz.underlying26, rfl, rfl, Tryz.sizeOf23⟩
theorem fd26_3 : Fld Tryz.prog 26 3 3 := ⟨_, _, _, Tryz.underlying26, rfl, rfl, Tryz.sizeOf24⟩
theorem fd26_4 : Fld Tryz.prog 26 4 4 := ⟨_, _, _, Tryz.underlying26, rfl, rfl, Tryz.sizeOf4⟩
theorem fd30_0 : Fld Tryz.prog 30 0 0 := ⟨_, _, _, Tryz.underlying30, rfl, rfl, Tryz.sizeOf3⟩
theorem fd30_1 : Fld Tryz.prog 30 1 1 := ⟨_, _, _, Tryz.underlying30, rfl, rfl, Tryz.sizeOf24⟩
theorem fd30_2 : Fld Tryz.prog 30 2 2 := ⟨_, _, _, Tryz.underlying30, rfl, rfl, Tryz.sizeOf28⟩
theorem fd37_0 : Fld Tryz.prog 37 0 0 := ⟨_, _, _, Tryz.underlying37, rfl, rfl, Tryz.sizeOf3⟩
theorem fd37_1 : Fld Tryz.prog 37 1 1 := ⟨_, _, _, Tryz.underlying37, rfl, rfl, Tryz.sizeOf3⟩
theorem fd37_2 : Fld Tryz.prog 37 2 2 := ⟨_, _, _, Tryz.underlying37, rfl, rfl, Tryz.sizeOf3⟩
theorem fd42_0 : Fld Tryz.prog 42 0 0 := ⟨_, _, _, Tryz.underlying42, rfl, rfl, Tryz.sizeOf3⟩
theorem fd42_1 : Fld Tryz.prog 42 1 1 := ⟨_, _, _, Tryz.underlying42, rfl, rfl, Tryz.sizeOf3⟩
theorem fd42_2 : Fld Tryz.prog 42 2 2 := ⟨_, _, _, Tryz.underlying42, rfl, rfl, Tryz.sizeOf3⟩
theorem fd42_3 : Fld Tryz.prog 42 3 3 := ⟨_, _, _, Tryz.underlying42, rfl, rfl, Tryz.sizeOf24⟩
theorem fd45_0 : Fld Tryz.prog 45 0 0 := ⟨_, _, _, Tryz.underlying45, rfl, rfl, Tryz.sizeOf4⟩
theorem fd45_1 : Fld Tryz.prog 45 1 1 := ⟨_, _, _, Tryz.underlying45, rfl, rfl, Tryz.sizeOf42⟩
theorem fd64_0 : Fld Tryz.prog 64 0 0 := ⟨_, _, _, Tryz.underlying64, rfl, rfl, Tryz.sizeOf3⟩
theorem fd64_1 : Fld Tryz.prog 64 1 1 := ⟨_, _, _, Tryz.underlying64, rfl, rfl, Tryz.sizeOf3⟩
theorem fd64_2 : Fld Tryz.prog 64 2 2 := ⟨_, _, _, Tryz.underlying64, rfl, rfl, Tryz.sizeOf62⟩
theorem fd110_0 : Fld Tryz.prog 110 0 0 := ⟨_, _, _, Tryz.underlying110, rfl, rfl, Tryz.sizeOf64⟩
theorem fd132_0 : Fld Tryz.prog 132 0 0 := ⟨_, _, _, Tryz.underlying132, rfl, rfl, Tryz.sizeOf3⟩
theorem fd132_1 : Fld Tryz.prog 132 1 1 := ⟨_, _, _, Tryz.underlying132, rfl, rfl, Tryz.sizeOf3⟩
theorem fd132_2 : Fld Tryz.prog 132 2 2 := ⟨_, _, _, Tryz.underlying132, rfl, rfl, Tryz.sizeOf106⟩
theorem fd132_3 : Fld Tryz.prog 132 3 3 := ⟨_, _, _, Tryz.underlying132, rfl, rfl, Tryz.sizeOf106⟩
theorem fd184_0 : Fld Tryz.prog 184 0 0 := ⟨_, _, _, Tryz.underlying184, rfl, rfl, Tryz.sizeOf42⟩
theorem fd184_1 : Fld Tryz.prog 184 1 4 := ⟨_, _, _, Tryz.underlying184, rfl, rfl, Tryz.sizeOf182⟩
theorem fd190_0 : Fld Tryz.prog 190 0 0 := ⟨_, _, _, Tryz.underlying190, rfl, rfl, Tryz.sizeOf24⟩
theorem fd190_1 : Fld Tryz.prog 190 1 1 := ⟨_, _, _, Tryz.underlying190, rfl, rfl, Tryz.sizeOf3⟩
theorem fd190_2 : Fld Tryz.prog 190 2 2 := ⟨_, _, _, Tryz.underlying190, rfl, rfl, Tryz.sizeOf3⟩
end Go.Proofs.YtdnelknieikbaaaGreat
set_option maxRecDepth 100000
namespace Go.Proofs.YtdnelknieikbaaaGreat
open Tryz
open Go.Eng Go.RowKit Go.Lin
variable {p : Int}
def I64 (n : Int) : Prop := -9223372036854775808 ≤ n ∧ n ≤ 9223372036854775807
instance (n : Int) : Decidable (I64 n) := by unfold I64; infer_instance
def IsP (p : Int) : Prop := 2 ≤ p ∧ p ≤ 997 ∧ ∀ k, k < p.toNat → 2 ≤ k → p.toNat % k ≠ 0
instance (p : Int) : Decidable (IsP p) := by unfold IsP; infer_instance
theorem IsP.prm (h : IsP p) : Prm p.toNat := by
 obtain ⟨h1, h2, h3⟩ := h
 refine prm_of_trial (by omega) fun k hk hkk => h3 k ?_ hk
 have : 2 * k ≤ k * k := Nat.mul_le_mul_right k hk
 omega
theorem IsP.fld (h : IsP p) : Fld p := by
 have := h.prm.fld
 rwa [Int.toNat_of_nonneg (by have := h.1; omega)] at this
theorem isP_of_trial (h2 : 2 ≤ p) (h9 : p ≤ 997) (j : Nat) (hj : p < (j : Int) * j) (h : ∀ k, 2 ≤ k → k < j → p.toNat % k ≠ 0) : IsP p := by
 refine ⟨h2, h9, fun k hk h2k he => ?_⟩
 have hp : Prm p.toNat := by
  refine prm_of_trial (by omega) fun k hk hkk => h k hk (Nat.lt_of_not_le fun hle => ?_)
  have h1 : j * j ≤ k * k := Nat.mul_le_mul hle hle
  have h2 : ((j * j : Nat) : Int) = (j : Int) * j := by simp
  omega
 rcases hp.2 k (Nat.dvd_of_mod_eq_zero he) with h | h <;> omega
theorem mod_nat (hp : 0 ≤ p) (k : Nat) (hk : 0 < k) : p % (k : Int) = ((p.toNat % k : Nat) : Int) := by
 rw [Int.natCast_emod, Int.toNat_of_nonneg hp]
theorem prime_ok (p : Int) (h : Hp) (hI : I64 p) : FnT Tryz.prog 70 #[.int .i64 p] h [] (fun r _ _ => r = .bool (decide (IsP p))) := by
 have hI1 := hI.1
 have hI2 := hI.2
 refine fn_enter func70 ntmps70 rfl rfl (fun w0 hw0 => ?_)
 simp only [argS]
 refine RsQ (Qm rfl (RnQ (ws_seq (RsQ (Qm rfl (Qx (ox_lss rfl rfl rfl) rfl (Qm rfl ?_)))))))
 refine wl_split (t := 6) rfl (fun hs => ?_) (fun hs => ?_)
 ·refine Qk rfl (Qk rfl (Qx (ox_pick_t rfl rfl rfl) rfl (RnQ (ws_cond_t rfl (RsQ (Qm rfl (RnQ (ws_ret (nx_then_ret ?_)))))))))
  exact nx_ret1 rfl rfl (by rw [decide_eq_false]; exact fun h => absurd h.1 (by omega))
 ·refine Qg (ox_move rfl rfl) rfl (Qg (ox_gtr rfl rfl rfl) rfl (Qx (ox_pick_f rfl rfl rfl) rfl (RnQ ?_)))
  refine ws_if rfl (fun hs2 => ?_) (fun hs2 => ?_)
  ·refine ws_seq (ws_region (Qm rfl (RnQ (ws_ret (nx_then_ret ?_)))))
   exact nx_ret1 rfl rfl (by rw [decide_eq_false]; exact fun h => absurd h.2.1 (by omega))
  ·refine ws_skip (nx_then (ws_seq (RsQ (Qm rfl (RnQ (ws_block ?_))))))
   refine ws_loop (fun n s h' ms' => ∃ (k : Nat), n = 1000 - k ∧ s = [(0, .int .i64 p), (3, .int .i64 k)] ∧ h = h' ∧ ms' = [] ∧ 2 ≤ k ∧ k ≤ 1000 ∧ ∀ j, 2 ≤ j → j < k → p.toNat % j ≠ 0)
    (1000 - 2) _ ⟨2, rfl, rfl, rfl, rfl, by omega, by omega, fun j h1 h2 => by omega⟩ Qs ?_
   rintro n s h' ms' ⟨k, rfl, rfl, rfl, rfl, h2, hk, hno⟩
   have hkk : (k : Int) * k ≤ 1000 * 1000 := by
    have h1 : k * k ≤ 1000 * 1000 := Nat.mul_le_mul hk hk
    have h2 : ((k * k : Nat) : Int) = (k : Int) * k := by simp
    omega
   have hkk0 : 0 ≤ (k : Int) * k := Int.mul_nonneg (by omega) (by omega)
   have hk4 : 2 * (k : Int) ≤ (k : Int) * k := Int.mul_le_mul_of_nonneg_right (by omega) (by omega)
   refine ws_seq (RsQ (Qm rfl (Qm rfl (Qx (ox_mul rfl rfl rfl (by omega)) rfl (Qm rfl (Qx (ox_leq rfl rfl rfl) rfl (RnQ ?_)))))))
   refine ws_if rfl (fun hlt => ?_) (fun hlt => ?_)
   ·refine ws_skip (nx_then (ws_seq (ws_block (RsQ (Qm rfl (Qm rfl (Qx (ox_remP rfl rfl rfl (by omega) (by omega)) rfl (Qx (ox_eqi rfl rfl rfl) rfl (RnQ ?_)))))))))
    have hm := mod_nat (p := p) (by omega) k (by omega)
    refine ws_if rfl (fun hz => ?_) (fun hz => ?_)
    ·refine ws_seq (ws_region (Qm rfl (RnQ (ws_ret (nx_block_ret (nx_then_ret (nx_then_ret (nx_block_ret (nx_then_ret ?_)))))))))
     exact nx_ret1 rfl rfl (by rw [decide_eq_false]; exact fun h => absurd (show p.toNat % k = 0 by omega) (h.2.2 k (by omega) h2))
    ·refine ws_skip (nx_block (nx_then (ws_region (Qm rfl (Qx (ox_add rfl rfl rfl (by omega)) rfl (Qm rfl (wl_nil ?_)))))))
     refine nx_round (1000 - (k + 1)) _ (by omega) ⟨k + 1, rfl, rfl, rfl, rfl, by omega, by omega, fun j h1 h3 => ?_⟩ Qs
     rcases (by omega : j < k ∨ j = k) with h4 | h4
     ·exact hno j h1 h4
     ·subst h4; omega
   ·refine ws_exit (nx_then_exit (nx_then_exit (nx_block_exit (nx_then (RsQ (Qm rfl (RnQ (ws_ret ?_))))))))
    exact nx_ret1 rfl rfl (by rw [decide_eq_true]; exact isP_of_trial (by omega) (by omega) k (by omega) hno)
theorem prime_v (p : Int) (h : Hp) (hI : I64 p) (ms : List Hp) : FnV Tryz.prog 70 #[.int .i64 p] h ms (.bool (decide (IsP p))) := by
 refine fun w hw => (?_ : FnV _ _ _ h [] _) w (hw.weaken (Hp.le_refl _) (List.nil_sublist _))
 exact FnT.toV (prime_ok p h hI)
def Fits (rows cols : Int) : Prop := 0 ≤ rows ∧ 0 ≤ cols ∧ rows ≤ 400 ∧ cols ≤ 400
instance (r c : Int) : Decidable (Fits r c) := by unfold Fits; infer_instance
theorem fits_ok (p r c : Int) (h : Hp) (hI : I64 p) : FnT Tryz.prog 100 #[.int .i64 p, .int .i64 r, .int .i64 c] h [] (fun x _ _ => x = .bool (decide (IsP p ∧ Fits r c))) := by
 refine fn_enter func100 ntmps100 rfl rfl (fun w0 hw0 => ?_)
 simp only [argS]
 refine RsQ (Qm rfl (RtQ (Qm rfl (Qx (ox_call rfl call70 rfl (prime_v _ _ hI _)) rfl (Qm rfl ?_)))))
 refine wl_split (t := 9) rfl (fun hs => ?_) (fun hs => ?_)
 ·refine Qg (ox_move rfl rfl) rfl (Qg (ox_move rfl rfl) rfl (Qg (ox_min rfl rfl rfl) rfl (Qg (ox_geq rfl rfl rfl) rfl (Qx (ox_pick_t rfl rfl rfl) rfl (Qm rfl ?_)))))
  refine wl_split (t := 15) rfl (fun hs2 => ?_) (fun hs2 => ?_)
  ·refine Qg (ox_move rfl rfl) rfl (Qg (ox_move rfl rfl) rfl (Qg (ox_max rfl rfl rfl) rfl (Qg (ox_leq rfl rfl rfl) rfl (Qx (ox_pick_t rfl rfl rfl) rfl (Qm rfl (RnQ (ws_ret ?_)))))))
   exact nx_ret1 rfl rfl (by unfold Fits; congr 1; rw [decide_eq_decide]; simp only [hs, true_and]; omega)
  ·refine Qk rfl (Qk rfl (Qk rfl (Qk rfl (Qx (ox_pick_f rfl rfl rfl) rfl (Qm rfl (RnQ (ws_ret ?_)))))))
   exact nx_ret1 rfl rfl (by unfold Fits; rw [decide_eq_false]; rintro ⟨_, h1⟩; omega)
 ·refine Qk rfl (Qk rfl (Qk rfl (Qk rfl (Qx (ox_pick_f rfl rfl rfl) rfl (Qm rfl (Qk rfl (Qk rfl (Qk rfl (Qk rfl (Qx (ox_pick_f rfl rfl rfl) rfl (Qm rfl (RnQ (ws_ret ?_)))))))))))))
  exact nx_ret1 rfl rfl (by rw [decide_eq_false]; exact fun h => hs h.1)
theorem fits_v (p r c : Int) (h : Hp) (hI : I64 p) (ms : List Hp) : FnV Tryz.prog 100 #[.int .i64 p, .int .i64 r, .int .i64 c] h ms (.bool (decide (IsP p ∧ Fits r c))) := by
 refine fun w hw => (?_ : FnV _ _ _ h [] _) w (hw.weaken (Hp.le_refl _) (List.nil_sublist _))
 exact FnT.toV (fits_ok p r c h hI)
end Go.Proofs.YtdnelknieikbaaaGreat
namespace Go.Proofs.YtdnelknieikbaaaGreat
open Tryz
open Go.Eng Go.RowKit Go.Lin
variable {l : List Int}
theorem fnv {P : Program} {f : FuncId} {args : Array Value} {h : Hp} {v : Value} (k : FnT P f args h [] (fun r _ _ => r = v)) (ms : List Hp) : FnV P f args h ms v := by
 refine fun w hw => (?_ : FnV _ _ _ h [] _) w (hw.weaken (Hp.le_refl _) (List.nil_sublist _))
 exact FnT.toV k
def idx (l : List Int) (p : Int → Bool) : Int := match l.findIdx? p with | some i => i | none => -1
theorem idx_some {p : Int → Bool} {k : Nat} (hk : k < l.length) (hp : p l[k] = true) (hn : ∀ j (hj : j < k), p (l[j]'(by omega)) = false) : idx l p = k := by
 unfold idx
 have : l.findIdx? p = some k := by
  rw [List.findIdx?_eq_some_iff_getElem]
  exact ⟨hk, hp, fun j hj => by simp [hn j hj]⟩
 rw [this]
theorem idx_none {p : Int → Bool} (hn : ∀ j (hj : j < l.length), p l[j] = false) : idx l p = -1 := by
 unfold idx
 have : l.findIdx? p = none := by
  rw [List.findIdx?_eq_none_iff]
  intro x hx
  obtain ⟨j, hj, rfl⟩ := List.mem_iff_getElem.1 hx
  exact hn j hj
 rw [this]
theorem idx_any (l : List Int) (p : Int → Bool) : decide (0 ≤ idx l p) = l.any p := by
 unfold idx
 cases h : l.findIdx? p with
 | none => rw [List.findIdx?_eq_none_iff] at h; simp; exact h
 | some i =>
  rw [List.findIdx?_eq_some_iff_getElem] at h
  obtain ⟨h1, h2, _⟩ := h
  simp
  exact ⟨_, List.getElem_mem h1, h2⟩
theorem indexFunc_ok (l : List Int) (vl : Value) (cf : FuncId) (cs : List Value) (p : Int → Bool) (h : Hp) (hR : RdL cI 1 h [] vl l)
  (hc : ∀ xs w, (callFunc cf xs).run Tryz.prog w = .ok (.enter cf xs) w)
  (hp : ∀ b ∈ l, ∀ ms, FnV Tryz.prog cf ([] ++ [Value.int .i64 b] ++ cs).toArray h ms (.bool (p b))) :
  FnT Tryz.prog 119 #[vl, .func (.func cf) #[] cs.toArray] h [] (fun r _ _ => r = .int .i64 (idx l p)) := by
 have hl := hR.len_le
 refine fn_enter func119 ntmps119 rfl rfl (fun w0 hw0 => ?_)
 simp only [argS]
 refine RsQ (Qm rfl (RnQ (ws_seq (RsQ (Qm rfl (Qx (ox_lenR hR.rd.any rfl underlying24 rfl) rfl (Qm rfl (RnQ (ws_block ?_)))))))))
 refine ws_loop (fun n s h' ms' => ∃ (k : Nat), n = l.length - k ∧ s = [(0, vl), (1, .func (.func cf) #[] cs.toArray), (7, .int .i64 l.length), (8, .int .i64 k)] ∧ h = h' ∧ ms' = [] ∧ k ≤ l.length ∧ ∀ j (hj : j < l.length), j < k → p l[j] = false)
  (l.length - 0) _ ⟨0, rfl, rfl, rfl, rfl, by omega, fun j hj h => by omega⟩ Qs ?_
 rintro n s h' ms' ⟨k, rfl, rfl, rfl, rfl, hk, hno⟩
 refine RsQ (Qx (ox_lss rfl rfl rfl) rfl (RnQ (ws_seq ?_)))
 refine ws_if rfl (fun hlt => ?_) (fun hlt => ?_)
 ·have hlt' : k < l.length := by omega
  refine ws_skip (nx_then (ws_seq (ws_block (RsQ (Qm rfl (Qm rfl (RtQ (Qm rfl (Qm rfl (Qm rfl (Qx (ox_indexR _ hR.rd.any rfl underlying24 el3 rfl rfl rfl (by omega)) rfl (Qx (ox_load rfl underlying3 rfl rfl (hR.any.cell0 hlt' rfl)) rfl (Qx (ox_callv rfl rfl hc rfl (hp _ (List.getElem_mem hlt') _)) rfl (RnQ ?_))))))))))))))
  refine ws_cond rfl (fun hpk => ?_) (fun hpk => ?_)
  ·refine ws_seq (ws_region (Qm rfl (Qm rfl (RnQ (ws_ret (nx_block_ret (nx_then_ret (nx_then_ret (nx_block_ret (nx_then_ret ?_))))))))))
   exact nx_ret1 rfl rfl (by rw [idx_some hlt' hpk fun j hj => hno j _ hj])
  ·refine ws_skip (nx_block (nx_then (ws_region (Qx (ox_add rfl rfl rfl (by omega)) rfl (Qm rfl (wl_nil ?_))))))
   refine nx_round (l.length - (k + 1)) _ (by omega) ⟨k + 1, rfl, rfl, rfl, rfl, by omega, fun j hj h1 => ?_⟩ Qs
   rcases (by omega : j < k ∨ j = k) with h2 | rfl
   ·exact hno j hj h2
   ·exact hpk
 ·refine ws_exit (nx_then_exit (nx_then_exit (nx_block_exit (nx_then (RsQ (Qm rfl (RnQ (ws_ret ?_))))))))
  exact nx_ret1 rfl rfl (by rw [idx_none fun j hj => hno j hj (by omega)])
theorem containsFunc_ok (l : List Int) (vl : Value) (cf : FuncId) (cs : List Value) (p : Int → Bool) (h : Hp) (hR : RdL cI 1 h [] vl l)
  (hc : ∀ xs w, (callFunc cf xs).run Tryz.prog w = .ok (.enter cf xs) w)
  (hp : ∀ b ∈ l, ∀ ms, FnV Tryz.prog cf ([] ++ [Value.int .i64 b] ++ cs).toArray h ms (.bool (p b))) :
  FnT Tryz.prog 94 #[vl, .func (.func cf) #[] cs.toArray] h [] (fun r _ _ => r = .bool (l.any p)) := by
 refine fn_enter func94 ntmps94 rfl rfl (fun w0 hw0 => ?_)
 simp only [argS]
 refine RsQ (Qm rfl (RtQ (Qm rfl (Qm rfl (Qx (ox_call rfl call119 rfl (fnv (indexFunc_ok l vl cf cs p h hR hc hp) _)) rfl (Qx (ox_geq rfl rfl rfl) rfl (Qm rfl (RnQ (ws_ret ?_)))))))))
 exact nx_ret1 rfl rfl (by rw [← idx_any])
structure FM where
 p : Int
 rows : Int
 cols : Int
 e : List Int
def FM.nil : FM := ⟨0, 0, 0, []⟩
def FM.Rt (M : FM) : Prop := IsP M.p ∧ Fits M.rows M.cols ∧ (M.e.length : Int) = M.rows * M.cols ∧ ∀ x ∈ M.e, 0 ≤ x ∧ x < M.p
instance (M : FM) : Decidable M.Rt := by unfold FM.Rt; infer_instance
structure FM.Ok (M : FM) : Prop where
 p : I64 M.p
 r : I64 M.rows
 c : I64 M.cols
def cM (M : FM) (ev : Value) : List Value := [.int .i64 M.p, .int .i64 M.rows, .int .i64 M.cols, ev]
theorem outside_v (g : Nat) (n p : Int) (h : Hp) (hD : ∀ ms, Cell h ms ⟨g, 0, none⟩ (.int .i64 p)) (ms : List Hp) : FnV Tryz.prog 101 ([] ++ [Value.int .i64 n] ++ [Value.pointer (some ⟨g, 0, none⟩)]).toArray h ms (.bool (decide (n < 0 ∨ p ≤ n))) := by
 refine fnv ?_ ms
 show FnT _ _ #[.int .i64 n, .pointer (some ⟨g, 0, none⟩)] _ _ _
 refine fn_enter func101 ntmps101 rfl rfl (fun w0 hw0 => ?_)
 simp only [argS]
 refine RsQ (Qm rfl (RtQ (Qm rfl (Qx (ox_lss rfl rfl rfl) rfl (Qm rfl ?_)))))
 refine wl_split (t := 6) rfl (fun hs => ?_) (fun hs => ?_)
 ·refine Qk rfl (Qk rfl (Qk rfl (Qk rfl (Qx (ox_pick_t rfl rfl rfl) rfl (Qm rfl (RnQ (ws_ret ?_)))))))
  exact nx_ret1 rfl rfl (by rw [decide_eq_true]; exact .inl hs)
 ·refine Qg (ox_move rfl rfl) rfl (Qg (ox_fieldF fd42_0 rfl rfl) rfl (Qg (ox_load rfl underlying3 rfl rfl (hD _)) rfl (Qg (ox_geq rfl rfl rfl) rfl (Qx (ox_pick_f rfl rfl rfl) rfl (Qm rfl (RnQ (ws_ret ?_)))))))
  exact nx_ret1 rfl rfl (by congr 1; rw [decide_eq_decide]; omega)
theorem any_out {p : Int} : (!l.any fun n => decide (n < 0 ∨ p ≤ n)) = decide (∀ x ∈ l, 0 ≤ x ∧ x < p) := by
 rw [Bool.eq_iff_iff]
 simp only [Bool.not_eq_true', List.any_eq_false, decide_eq_true_eq]
 exact ⟨fun h x hx => by have := h x hx; omega, fun h x hx => by have := h x hx; omega⟩
theorem fits_mul {r c : Int} (hF : Fits r c) : 0 ≤ r * c ∧ r * c ≤ 160000 := by
 obtain ⟨h1, h2, h3, h4⟩ := hF
 refine ⟨Int.mul_nonneg h1 h2, ?_⟩
 have := Int.mul_le_mul h3 h4 h2 (by omega : (0 : Int) ≤ 400)
 omega
theorem right_ok (M : FM) (ev : Value) (h : Hp) (hO : M.Ok) (hR : RdL cI 1 h [] ev M.e) : FnT Tryz.prog 73 #[.agg #[.int .i64 M.p, .int .i64 M.rows, .int .i64 M.cols, ev]] h [] (fun r _ _ => r = .bool (decide M.Rt)) := by
 have hl := hR.len_le
 refine fn_enter func73 ntmps73 rfl rfl (fun w0 hw0 => ?_)
 simp only [argS]
 refine RsQ ?_
 refine wl_box [_, _, _, _] rfl rfl (by rfl) rfl rfl rfl (fun g1 => ?_)
 refine Qm rfl (RtQ (Qx (ox_fieldF fd42_0 rfl rfl) rfl (Qx (ox_load rfl underlying3 rfl rfl (Cell.blk 0 rfl rfl)) rfl (Qx (ox_fieldF fd42_1 rfl rfl) rfl (Qx (ox_load rfl underlying3 rfl rfl (Cell.blk 0 rfl rfl)) rfl (Qx (ox_fieldF fd42_2 rfl rfl) rfl (Qx (ox_load rfl underlying3 rfl rfl (Cell.blk 0 rfl rfl)) rfl (Qx (ox_call rfl call100 rfl (fits_v _ _ _ _ hO.p _)) rfl (Qm rfl ?_)))))))))
 refine wl_split (t := 10) rfl (fun hf => ?_) (fun hf => ?_)
 ·have hm := fits_mul hf.2
  refine Qg (ox_fieldF fd42_3 rfl rfl) rfl (Qg (ox_load rfl underlying24 rfl rfl (Cell.blk 0 rfl rfl)) rfl (Qg (ox_lenR hR.rd.any rfl underlying24 rfl) rfl (Qg (ox_fieldF fd42_1 rfl rfl) rfl (Qg (ox_load rfl underlying3 rfl rfl (Cell.blk 0 rfl rfl)) rfl (Qg (ox_fieldF fd42_2 rfl rfl) rfl (Qg (ox_load rfl underlying3 rfl rfl (Cell.blk 0 rfl rfl)) rfl (Qg (ox_mul rfl rfl rfl (by omega)) rfl (Qg (ox_eqi rfl rfl rfl) rfl (Qx (ox_pick_t rfl rfl rfl) rfl (Qm rfl ?_))))))))))
  refine wl_split (t := 21) rfl (fun he => ?_) (fun he => ?_)
  ·refine Qg (ox_fieldF fd42_3 rfl rfl) rfl (Qg (ox_load rfl underlying24 rfl rfl (Cell.blk 0 rfl rfl)) rfl (wl_freezeB fun h' hle hS => ?_))
   have hR := hR.up hle
   have hD : ∀ i v, (cM M ev)[i]? = some v → ∀ ms, Cell h' ms ((⟨g1, 0, none⟩ : Addr).add i) v := fun i v hv ms => (hS i v hv).any
   have hD0 : ∀ ms, Cell h' ms ⟨g1, 0, none⟩ (.int .i64 M.p) := fun ms => hD 0 _ rfl ms
   refine Qg (ox_makeFunc rfl rfl rfl) rfl (Qg (ox_call rfl call94 rfl (fnv (containsFunc_ok M.e ev 101 [.pointer (some ⟨g1, 0, none⟩)] (fun n => decide (n < 0 ∨ M.p ≤ n)) h' hR call101 (fun b _ ms => outside_v g1 b M.p h' hD0 ms)) _)) rfl (Qg (ox_not rfl rfl) rfl (Qx (ox_pick_t rfl rfl rfl) rfl (Qm rfl (RnQ (ws_ret ?_))))))
   exact nx_ret1 rfl rfl (by rw [any_out]; congr 1; rw [decide_eq_decide]; unfold FM.Rt; exact ⟨fun hx => ⟨hf.1, hf.2, he, hx⟩, fun hx => hx.2.2.2⟩)
  ·refine Qk rfl (Qk rfl (Qk rfl (Qk rfl (Qk rfl (Qx (ox_pick_f rfl rfl rfl) rfl (Qm rfl (RnQ (ws_ret ?_))))))))
   exact nx_ret1 rfl rfl (by rw [decide_eq_false]; exact fun hx => he hx.2.2.1)
 ·refine Qk rfl (Qk rfl (Qk rfl (Qk rfl (Qk rfl (Qk rfl (Qk rfl (Qk rfl (Qk rfl (Qx (ox_pick_f rfl rfl rfl) rfl (Qm rfl (Qk rfl (Qk rfl (Qk rfl (Qk rfl (Qk rfl (Qx (ox_pick_f rfl rfl rfl) rfl (Qm rfl (RnQ (ws_ret ?_)))))))))))))))))))
  exact nx_ret1 rfl rfl (by rw [decide_eq_false]; exact fun hx => hf ⟨hx.1, hx.2.1⟩)
end Go.Proofs.YtdnelknieikbaaaGreat
namespace Go.Proofs.YtdnelknieikbaaaGreat
open Tryz
open Go.Eng Go.RowKit Go.Lin
def mkZ (p r c : Int) : FM := if IsP p ∧ Fits r c then ⟨p, r, c, List.replicate (r * c).toNat 0⟩ else FM.nil
def mkM (p : Int) (r c : Nat) (f : Nat → Nat → Int) : FM := ⟨p, r, c, mat r c f⟩
theorem mkZ_nat {p : Int} {r c : Nat} (hp : IsP p) (hr : r ≤ 400) (hc : c ≤ 400) : mkZ p r c = mkM p r c fun _ _ => 0 := by
 unfold mkZ mkM
 rw [if_pos ⟨hp, by unfold Fits; omega⟩, ← mat_rep, show ((r : Int) * c).toNat = r * c by rw [← Int.natCast_mul, Int.toNat_natCast]]
def MadeM (r : Value) (ms : List Hp) (M : FM) : Prop := ∃ ev m, ms = [m] ∧ r = .agg #[.int .i64 M.p, .int .i64 M.rows, .int .i64 M.cols, ev] ∧ OwnL cI 1 3 m ev M.e
theorem zero_ok (p r c : Int) (h : Hp) (hI : I64 p) : FnT Tryz.prog 106 #[.int .i64 p, .int .i64 r, .int .i64 c] h [] (fun v h' ms' => h = h' ∧ MadeM v ms' (mkZ p r c)) := by
 refine fn_enter func106 ntmps106 rfl rfl (fun w0 hw0 => ?_)
 simp only [argS]
 refine RsQ (AlQ [.int .i64 0, .int .i64 0, .int .i64 0, .slice none 0 0] rfl el42 rfl rfl (fun g6 => RnQ (ws_seq (RsQ (Qm rfl (Qm rfl (Qm rfl (Qx (ox_call rfl call100 rfl (fits_v _ _ _ _ hI _)) rfl (Qx (ox_not rfl rfl) rfl (RnQ ?_))))))))))
 refine ws_cond rfl (fun hf => ?_) (fun hf => ?_)
 ·have hf : ¬ (IsP p ∧ Fits r c) := of_decide_eq_false (by simpa only [Bool.not_eq_true'] using hf)
  refine RsQ ?_
  refine Qx (ox_buildS st42 [.int .i64 0, .int .i64 0, .int .i64 0, .slice none 0 0] [] [_, _, _, _] rfl el42 rfl rfl (by repeat (first | exact trivial | refine ⟨⟨rfl, rfl, rfl⟩, ?_⟩)) rfl) rfl ?_
  refine wl_storeAll 0 [_, _, _, _] rfl el42 rfl rfl rfl (by (simp [Value.oneCell']; done)) rfl rfl rfl rfl rfl ?_
  refine RnQ (ws_ret (nx_then_ret (nx_emp ?_)))
  exact nx_retD (vs := [_, _, _, _]) 1 rfl rfl underlying42 rfl el42 rfl rfl (⟨rfl, _, _, rfl, by unfold mkZ; rw [if_neg hf]; rfl, by unfold mkZ; rw [if_neg hf]; exact OwnL.nil cI_len⟩)
 ·have hf : IsP p ∧ Fits r c := of_decide_eq_true (by simpa only [Bool.not_eq_false'] using hf)
  have hm := fits_mul hf.2
  obtain ⟨n, hn⟩ : ∃ n : Nat, r * c = n := ⟨(r * c).toNat, by omega⟩
  refine ws_skip (nx_then (RsQ (Qm rfl (Qm rfl (Qm rfl (Qm rfl (Qm rfl (Qx (ox_mul rfl rfl rfl (by omega)) rfl (wl_make (n := n) rfl underlying24 el3 rfl rfl rfl (by omega) (by omega) (by omega) (by omega) rfl rfl rfl (fun g19 => ?_))))))))))
  refine Qx (ox_buildS st42 [.int .i64 0, .int .i64 0, .int .i64 0, .slice none 0 0] [(0, _), (1, _), (2, _), (3, _)] [_, _, _, _] rfl el42 rfl rfl (by repeat (first | exact trivial | refine ⟨⟨rfl, rfl, rfl⟩, ?_⟩)) rfl) rfl ?_
  refine wl_storeAll 1 [_, _, _, _] rfl el42 rfl rfl rfl (by (simp [Value.oneCell']; done)) rfl rfl rfl rfl rfl ?_
  refine RnQ (ws_ret ?_)
  exact nx_retD (vs := [_, _, _, _]) 1 rfl rfl underlying42 rfl el42 rfl rfl (⟨rfl, _, _, rfl, by unfold mkZ; rw [if_pos hf], by unfold mkZ; rw [if_pos hf, hn]; exact OwnL.rep n 0 (by omega)⟩)
def eye (i j : Nat) : Int := if i = j then 1 else 0
theorem upd_eye (k : Nat) (i j : Nat) : upd2 (fun i j => if i = j ∧ i < k then 1 else 0) k k 1 i j = if i = j ∧ i < k + 1 then 1 else 0 := by
 unfold upd2
 by_cases h : i = k ∧ j = k
 ·rw [if_pos h, if_pos (by omega)]
 ·rw [if_neg h]
  show (if i = j ∧ i < k then 1 else 0) = _
  by_cases h2 : i = j ∧ i < k
  ·rw [if_pos h2, if_pos (by omega)]
  ·rw [if_neg h2, if_neg (by omega)]
theorem one_ok (p : Int) (n : Nat) (h : Hp) (hp : IsP p) (hn : n ≤ 400) : FnT Tryz.prog 87 #[.int .i64 p, .int .i64 n] h [] (fun v h' ms' => h = h' ∧ MadeM v ms' (mkM p n n eye)) := by
 have hI : I64 p := ⟨by have := hp.1; omega, by have := hp.2.1; omega⟩
 refine fn_enter func87 ntmps87 rfl rfl (fun w0 hw0 => ?_)
 simp only [argS]
 refine RsQ (AlQ [.int .i64 0, .int .i64 0, .int .i64 0, .slice none 0 0] rfl el42 rfl rfl (fun g4 => RtQ (Qm rfl (Qm rfl (Qm rfl (wl_call rfl call106 rfl (zero_ok p n n h hI) rfl rfl rfl (fun v h1 ms1 l1 hF => ?_)))))))
 obtain ⟨rfl, ev, m, rfl, rfl, hO⟩ := hF
 rw [mkZ_nat hp hn hn] at hO ⊢
 have hO2 := hO.own.1
 have he1 : ev.oneCell' = true := (hO.rd (h := h) (ms := [m]) (List.Mem.head _)).rd.one
 refine AlQ [.int .i64 0, .int .i64 0, .int .i64 0, .slice none 0 0] rfl el42 rfl rfl (fun g5 => ?_)
 refine wl_storeAll 0 [_, _, _, _] rfl el42 rfl rfl rfl (by (simp [he1]; done)) rfl rfl rfl rfl rfl ?_
 refine RnQ (ws_seq (RsQ (Qx (ox_fieldF fd42_1 rfl rfl) rfl (Qx (ox_load rfl underlying3 rfl rfl (Cell.blk 0 rfl rfl)) rfl (Qm rfl (RnQ (ws_block ?_)))))))
 refine ws_loop (fun q s h' ms' => ∃ (k : Nat) (m : Hp), q = n - k ∧ s = [(1, .int .i64 n), (4, .pointer (some ⟨g4, 0, none⟩)), (5, .pointer (some ⟨g5, 0, none⟩)), (12, .int .i64 n), (13, .int .i64 k)] ∧ h = h' ∧ ms' = [Blk g5 42 [.int .i64 p, .int .i64 n, .int .i64 n, ev], m, Blk g4 42 [.int .i64 0, .int .i64 0, .int .i64 0, .slice none 0 0]] ∧ k ≤ n ∧ OwnL cI 1 3 m ev (mat n n fun i j => if i = j ∧ i < k then 1 else 0))
  (n - 0) _ ⟨0, m, rfl, rfl, rfl, rfl, by omega, by rw [mat_congr (g := fun _ _ => 0) (fun i _ j _ => if_neg (by omega))]; exact hO⟩ Qs ?_
 rintro q s h' ms' ⟨k, m, rfl, rfl, rfl, rfl, hk, hO⟩
 refine RsQ (Qx (ox_lss rfl rfl rfl) rfl (RnQ (ws_seq ?_)))
 refine ws_if rfl (fun hlt => ?_) (fun hlt => ?_)
 ·have hkn : k < n := by omega
  have hix := ix_lt hkn hkn
  have hl : (mat n n fun i j => if i = j ∧ i < k then 1 else 0).length = n * n := mat_len _ _ _
  have hkk : k * n ≤ 400 * 400 := Nat.mul_le_mul (by omega) hn
  refine ws_skip (nx_then (ws_seq (ws_block (RsQ (Qm rfl (Qm rfl (RrQ (Qx (ox_fieldF fd42_3 rfl rfl) rfl (Qx (ox_load rfl underlying24 rfl rfl (Cell.blk 0 rfl rfl)) rfl (Qm rfl (Qm rfl (Qx (ox_mul rfl rfl rfl (by omega)) rfl (Qm rfl (Qx (ox_add rfl rfl rfl (by omega)) rfl (Qx (ox_indexR (k * n + k) (hO.rd (List.Mem.tail _ (List.Mem.head _))).rd rfl underlying24 el3 rfl rfl (by omega) (by omega)) rfl (wl_storeN 1 (k * n + k) hO rfl el3 rfl rfl rfl (by omega) rfl rfl (fun m' hO' => wl_nil (nx_block (nx_then (ws_region (Qx (ox_add rfl rfl rfl (by omega)) rfl (Qm rfl (wl_nil ?_)))))))))))))))))))))))
  refine nx_round (n - (k + 1)) _ (by omega) ⟨k + 1, m', rfl, rfl, rfl, rfl, by omega, ?_⟩ Qs
  rw [mat_set _ hkn, mat_congr (fun i _ j _ => upd_eye k i j)] at hO'
  exact hO'
 ·refine ws_exit (nx_then_exit (nx_then_exit (nx_block_exit (nx_then (RsQ (Qx (ox_loadG rfl underlying42 rfl el42 rfl rfl (Seg.blk 0 rfl)) rfl ?_))))))
  refine wl_storeAll 2 [_, _, _, _] rfl el42 rfl rfl rfl (by (simp [he1]; done)) rfl rfl rfl rfl rfl ?_
  refine RnQ (ws_ret (nx_drop ?_))
  exact nx_retD (vs := [_, _, _, _]) 1 rfl rfl underlying42 rfl el42 rfl rfl (⟨rfl, ev, m, rfl, rfl, by rw [show k = n by omega, mat_congr (g := eye) (fun i hi j hj => by unfold eye; simp only [hi, and_true])] at hO; exact hO⟩)
end Go.Proofs.YtdnelknieikbaaaGreat
namespace Go.Proofs.YtdnelknieikbaaaGreat
open Tryz
open Go.Eng Go.RowKit Go.Lin
theorem rprime_ok (p : Int) (h : Hp) (hI : I64 p) : FnT Tryz.prog 45 #[.int .i64 p] h [] (fun r _ _ => r = .bool (decide (IsP p))) := by
 have hI1 := hI.1
 have hI2 := hI.2
 refine fn_enter func45 ntmps45 rfl rfl (fun w0 hw0 => ?_)
 simp only [argS]
 refine RsQ (Qm rfl (RnQ (ws_seq (RsQ (Qm rfl (Qx (ox_lss rfl rfl rfl) rfl (Qm rfl ?_)))))))
 refine wl_split (t := 6) rfl (fun hs => ?_) (fun hs => ?_)
 ·refine Qk rfl (Qk rfl (Qx (ox_pick_t rfl rfl rfl) rfl (RnQ (ws_cond_t rfl (RsQ (Qm rfl (RnQ (ws_ret (nx_then_ret ?_)))))))))
  exact nx_ret1 rfl rfl (by rw [decide_eq_false]; exact fun h => absurd h.1 (by omega))
 ·refine Qg (ox_move rfl rfl) rfl (Qg (ox_gtr rfl rfl rfl) rfl (Qx (ox_pick_f rfl rfl rfl) rfl (RnQ ?_)))
  refine ws_if rfl (fun hs2 => ?_) (fun hs2 => ?_)
  ·refine ws_seq (ws_region (Qm rfl (RnQ (ws_ret (nx_then_ret ?_)))))
   exact nx_ret1 rfl rfl (by rw [decide_eq_false]; exact fun h => absurd h.2.1 (by omega))
  ·refine ws_skip (nx_then (ws_seq (RsQ (Qm rfl (RnQ (ws_block ?_))))))
   refine ws_loop (fun n s h' ms' => ∃ (k : Nat), n = 1000 - k ∧ s = [(0, .int .i64 p), (3, .int .i64 k)] ∧ h = h' ∧ ms' = [] ∧ 2 ≤ k ∧ k ≤ 1000 ∧ ∀ j, 2 ≤ j → j < k → p.toNat % j ≠ 0)
    (1000 - 2) _ ⟨2, rfl, rfl, rfl, rfl, by omega, by omega, fun j h1 h2 => by omega⟩ Qs ?_
   rintro n s h' ms' ⟨k, rfl, rfl, rfl, rfl, h2, hk, hno⟩
   refine ws_seq (RsQ (Qm rfl (Qm rfl (Qx (ox_lss rfl rfl rfl) rfl (RnQ ?_)))))
   refine ws_if rfl (fun hlt => ?_) (fun hlt => ?_)
   ·refine ws_skip (nx_then (ws_seq (ws_block (RsQ (Qm rfl (Qm rfl (Qx (ox_remP rfl rfl rfl (by omega) (by omega)) rfl (Qx (ox_eqi rfl rfl rfl) rfl (RnQ ?_)))))))))
    have hm := mod_nat (p := p) (by omega) k (by omega)
    refine ws_if rfl (fun hz => ?_) (fun hz => ?_)
    ·refine ws_seq (ws_region (Qm rfl (RnQ (ws_ret (nx_block_ret (nx_then_ret (nx_then_ret (nx_block_ret (nx_then_ret ?_)))))))))
     exact nx_ret1 rfl rfl (by rw [decide_eq_false]; exact fun h => absurd (show p.toNat % k = 0 by omega) (h.2.2 k (by omega) h2))
    ·refine ws_skip (nx_block (nx_then (ws_region (Qm rfl (Qx (ox_add rfl rfl rfl (by omega)) rfl (Qm rfl (wl_nil ?_)))))))
     refine nx_round (1000 - (k + 1)) _ (by omega) ⟨k + 1, rfl, rfl, rfl, rfl, by omega, by omega, fun j h1 h3 => ?_⟩ Qs
     rcases (by omega : j < k ∨ j = k) with h4 | h4
     ·exact hno j h1 h4
     ·subst h4; omega
   ·refine ws_exit (nx_then_exit (nx_then_exit (nx_block_exit (nx_then (RsQ (Qm rfl (RnQ (ws_ret ?_))))))))
    exact nx_ret1 rfl rfl (by rw [decide_eq_true]; exact ⟨by omega, by omega, fun j h1 h2 => hno j h2 (by omega)⟩)
theorem rprime_v (p : Int) (h : Hp) (hI : I64 p) (ms : List Hp) : FnV Tryz.prog 45 #[.int .i64 p] h ms (.bool (decide (IsP p))) := fnv (rprime_ok p h hI) ms
theorem rfits_ok (r c : Int) (h : Hp) : FnT Tryz.prog 47 #[.int .i64 r, .int .i64 c] h [] (fun x _ _ => x = .bool (decide (Fits r c))) := by
 refine fn_enter func47 ntmps47 rfl rfl (fun w0 hw0 => ?_)
 simp only [argS]
 refine RsQ (Qm rfl (RtQ (Qm rfl (Qx (ox_geq rfl rfl rfl) rfl (Qm rfl ?_)))))
 refine wl_split (t := 7) rfl (fun hs => ?_) (fun hs => ?_)
 ·refine Qg (ox_move rfl rfl) rfl (Qg (ox_geq rfl rfl rfl) rfl (Qx (ox_pick_t rfl rfl rfl) rfl (Qm rfl ?_)))
  refine wl_split (t := 11) rfl (fun hs2 => ?_) (fun hs2 => ?_)
  ·refine Qg (ox_move rfl rfl) rfl (Qg (ox_leq rfl rfl rfl) rfl (Qx (ox_pick_t rfl rfl rfl) rfl (Qm rfl ?_)))
   refine wl_split (t := 15) rfl (fun hs3 => ?_) (fun hs3 => ?_)
   ·refine Qg (ox_move rfl rfl) rfl (Qg (ox_leq rfl rfl rfl) rfl (Qx (ox_pick_t rfl rfl rfl) rfl (Qm rfl (RnQ (ws_ret ?_)))))
    exact nx_ret1 rfl rfl (by congr 1; rw [decide_eq_decide]; unfold Fits; omega)
   ·refine Qk rfl (Qk rfl (Qx (ox_pick_f rfl rfl rfl) rfl (Qm rfl (RnQ (ws_ret ?_)))))
    exact nx_ret1 rfl rfl (by rw [decide_eq_false]; unfold Fits; omega)
  ·refine Qk rfl (Qk rfl (Qx (ox_pick_f rfl rfl rfl) rfl (Qm rfl (Qk rfl (Qk rfl (Qx (ox_pick_f rfl rfl rfl) rfl (Qm rfl (RnQ (ws_ret ?_)))))))))
   exact nx_ret1 rfl rfl (by rw [decide_eq_false]; unfold Fits; omega)
 ·refine Qk rfl (Qk rfl (Qx (ox_pick_f rfl rfl rfl) rfl (Qm rfl (Qk rfl (Qk rfl (Qx (ox_pick_f rfl rfl rfl) rfl (Qm rfl (Qk rfl (Qk rfl (Qx (ox_pick_f rfl rfl rfl) rfl (Qm rfl (RnQ (ws_ret ?_)))))))))))))
  exact nx_ret1 rfl rfl (by rw [decide_eq_false]; unfold Fits; omega)
theorem rfits_v (r c : Int) (h : Hp) (ms : List Hp) : FnV Tryz.prog 47 #[.int .i64 r, .int .i64 c] h ms (.bool (decide (Fits r c))) := fnv (rfits_ok r c h) ms
theorem rright_ok (M : FM) (ev : Value) (h : Hp) (hO : M.Ok) (hR : RdL cI 1 h [] ev M.e) : FnT Tryz.prog 46 #[.agg #[.int .i64 M.p, .int .i64 M.rows, .int .i64 M.cols, ev]] h [] (fun r _ _ => r = .bool (decide M.Rt)) := by
 have hl := hR.len_le
 refine fn_enter func46 ntmps46 rfl rfl (fun w0 hw0 => ?_)
 simp only [argS]
 refine RsQ ?_
 refine wl_box [_, _, _, _] rfl rfl (by rfl) rfl rfl rfl (fun g1 => ?_)
 refine Qm rfl (RtQ (Qx (ox_fieldF fd42_0 rfl rfl) rfl (Qx (ox_load rfl underlying3 rfl rfl (Cell.blk 0 rfl rfl)) rfl (Qx (ox_call rfl call45 rfl (rprime_v _ _ hO.p _)) rfl (Qm rfl (RtQ (Qx (ox_fieldF fd42_1 rfl rfl) rfl (Qx (ox_load rfl underlying3 rfl rfl (Cell.blk 0 rfl rfl)) rfl (Qx (ox_fieldF fd42_2 rfl rfl) rfl (Qx (ox_load rfl underlying3 rfl rfl (Cell.blk 0 rfl rfl)) rfl (Qx (ox_call rfl call47 rfl (rfits_v _ _ _ _)) rfl (Qm rfl (RnQ (ws_seq (RsQ (Qm rfl (Qx (ox_not rfl rfl) rfl (Qm rfl ?_))))))))))))))))))
 refine wl_splitb (t := 16) rfl (fun hp => ?_) (fun hp => ?_)
 ·refine Qk rfl (Qk rfl (Qx (ox_pick_t rfl rfl rfl) rfl (Qm rfl (Qk rfl (Qk rfl (Qk rfl (Qk rfl (Qk rfl (Qk rfl (Qk rfl (Qk rfl (Qk rfl (Qx (ox_pick_t rfl rfl rfl) rfl (RnQ (ws_cond_t rfl (RsQ (Qm rfl (RnQ (ws_ret (nx_then_ret ?_))))))))))))))))))))
  exact nx_ret1 rfl rfl (by rw [decide_eq_false]; exact fun hx => absurd hx.1 (by simpa using hp))
 ·have hp : IsP M.p := by simpa using hp
  refine Qg (ox_move rfl rfl) rfl (Qg (ox_not rfl rfl) rfl (Qx (ox_pick_f rfl rfl rfl) rfl (Qm rfl ?_)))
  refine wl_splitb (t := 20) rfl (fun hf => ?_) (fun hf => ?_)
  ·refine Qk rfl (Qk rfl (Qk rfl (Qk rfl (Qk rfl (Qk rfl (Qk rfl (Qk rfl (Qk rfl (Qx (ox_pick_t rfl rfl rfl) rfl (RnQ (ws_cond_t rfl (RsQ (Qm rfl (RnQ (ws_ret (nx_then_ret ?_))))))))))))))))
   exact nx_ret1 rfl rfl (by rw [decide_eq_false]; exact fun hx => absurd hx.2.1 (by simpa using hf))
  ·have hf : Fits M.rows M.cols := by simpa using hf
   have hm := fits_mul hf
   refine Qg (ox_fieldF fd42_3 rfl rfl) rfl (Qg (ox_load rfl underlying24 rfl rfl (Cell.blk 0 rfl rfl)) rfl (Qg (ox_lenR hR.rd.any rfl underlying24 rfl) rfl (Qg (ox_fieldF fd42_1 rfl rfl) rfl (Qg (ox_load rfl underlying3 rfl rfl (Cell.blk 0 rfl rfl)) rfl (Qg (ox_fieldF fd42_2 rfl rfl) rfl (Qg (ox_load rfl underlying3 rfl rfl (Cell.blk 0 rfl rfl)) rfl (Qg (ox_mul rfl rfl rfl (by omega)) rfl (Qg (ox_nei rfl rfl rfl) rfl (Qx (ox_pick_f rfl rfl rfl) rfl (RnQ ?_))))))))))
   refine ws_if rfl (fun hlen => ?_) (fun hlen => ?_)
   ·refine ws_seq (ws_region (Qm rfl (RnQ (ws_ret (nx_then_ret ?_)))))
    exact nx_ret1 rfl rfl (by rw [decide_eq_false]; exact fun hx => hlen hx.2.2.1)
   ·have hlen : (M.e.length : Int) = M.rows * M.cols := Decidable.not_not.1 hlen
    refine ws_skip (nx_then (ws_seq (RsQ (Qm rfl (RnQ (ws_block ?_))))))
    refine ws_loop (fun n s h' ms' => ∃ (k : Nat), n = M.e.length - k ∧ s = [(1, .pointer (some ⟨g1, 0, none⟩)), (5, .int .i64 k)] ∧ h = h' ∧ ms' = [Blk g1 42 [.int .i64 M.p, .int .i64 M.rows, .int .i64 M.cols, ev]] ∧ k ≤ M.e.length ∧ ∀ x ∈ M.e.take k, 0 ≤ x ∧ x < M.p)
     (M.e.length - 0) _ ⟨0, rfl, rfl, rfl, rfl, by omega, by simp⟩ Qs ?_
    rintro n s h' ms' ⟨k, rfl, rfl, rfl, rfl, hk, hno⟩
    refine ws_seq (RsQ (Qm rfl (Qx (ox_fieldF fd42_3 rfl rfl) rfl (Qx (ox_load rfl underlying24 rfl rfl (Cell.blk 0 rfl rfl)) rfl (Qx (ox_lenR hR.rd.any rfl underlying24 rfl) rfl (Qx (ox_lss rfl rfl rfl) rfl (RnQ ?_)))))))
    refine ws_if rfl (fun hlt => ?_) (fun hlt => ?_)
    ·have hlt' : k < M.e.length := by omega
     refine ws_skip (nx_then (ws_seq (ws_block (ws_seq (ws_draw 14 fol (by kernel_rfl) rfl (wr_x (ox_fieldF fd42_3 rfl rfl) rfl rfl (wr_x (ox_load rfl underlying24 rfl rfl (Cell.blk 0 rfl rfl)) rfl rfl (wr_x (ox_move rfl rfl) rfl rfl (wr_x (ox_indexR _ hR.rd.any rfl underlying24 el3 rfl rfl rfl (by omega)) rfl rfl (wr_x (ox_load rfl underlying3 rfl rfl (hR.any.cell0 hlt' rfl)) rfl rfl (wr_x (ox_lss rfl rfl rfl) rfl rfl (wr_x (ox_move rfl rfl) rfl rfl ?_))))))))))))
     refine wr_split (t := 44) rfl (fun hs => ?_) (fun hs => ?_)
     ·refine wr_skip rfl rfl rfl rfl rfl (wr_skip rfl rfl rfl rfl rfl (wr_skip rfl rfl rfl rfl rfl (wr_skip rfl rfl rfl rfl rfl (wr_skip rfl rfl rfl rfl rfl (wr_skip rfl rfl rfl rfl rfl (wr_skip rfl rfl rfl rfl rfl (wr_nil (Qk rfl (Qx (ox_pick_t rfl rfl rfl) rfl (RnQ (ws_cond_t rfl (RsQ (Qm rfl (RnQ (ws_ret (nx_block_ret (nx_then_ret (nx_then_ret (nx_block_ret (nx_then_ret ?_))))))))))))))))))))
      exact nx_ret1 rfl rfl (by rw [decide_eq_false]; exact fun hx => by have := hx.2.2.2 _ (List.getElem_mem hlt'); omega)
     ·refine wr_gx (ox_fieldF fd42_3 rfl rfl) rfl rfl rfl rfl (wr_gx (ox_load rfl underlying24 rfl rfl (Cell.blk 0 rfl rfl)) rfl rfl rfl rfl (wr_gx (ox_move rfl rfl) rfl rfl rfl rfl (wr_gx (ox_indexR _ hR.rd.any rfl underlying24 el3 rfl rfl rfl (by omega)) rfl rfl rfl rfl (wr_gx (ox_load rfl underlying3 rfl rfl (hR.any.cell0 hlt' rfl)) rfl rfl rfl rfl (wr_gx (ox_fieldF fd42_0 rfl rfl) rfl rfl rfl rfl (wr_gx (ox_load rfl underlying3 rfl rfl (Cell.blk 0 rfl rfl)) rfl rfl rfl rfl (wr_nil (Qg (ox_geq rfl rfl rfl) rfl (Qx (ox_pick_f rfl rfl rfl) rfl (RnQ ?_))))))))))
      refine ws_if rfl (fun hs2 => ?_) (fun hs2 => ?_)
      ·refine ws_seq (ws_region (Qm rfl (RnQ (ws_ret (nx_block_ret (nx_then_ret (nx_then_ret (nx_block_ret (nx_then_ret ?_)))))))))
       exact nx_ret1 rfl rfl (by rw [decide_eq_false]; exact fun hx => by have := hx.2.2.2 _ (List.getElem_mem hlt'); omega)
      ·refine ws_skip (nx_block (nx_then (ws_region (Qm rfl (Qx (ox_add rfl rfl rfl (by omega)) rfl (Qm rfl (wl_nil ?_)))))))
       refine nx_round (M.e.length - (k + 1)) _ (by omega) ⟨k + 1, rfl, rfl, rfl, rfl, by omega, ?_⟩ Qs
       intro x hx
       rw [List.take_add_one, List.getElem?_eq_getElem hlt'] at hx
       rcases List.mem_append.1 hx with hx | hx
       ·exact hno x hx
       ·simp at hx; subst hx; omega
    ·refine ws_exit (nx_then_exit (nx_then_exit (nx_block_exit (nx_then (RsQ (Qm rfl (RnQ (ws_ret ?_))))))))
     exact nx_ret1 rfl rfl (by rw [decide_eq_true]; exact ⟨hp, hf, hlen, fun x hx => hno x (by rw [List.take_of_length_le (by omega)]; exact hx)⟩)
theorem rzero_ok (p r c : Int) (h : Hp) (hI : I64 p) : FnT Tryz.prog 23 #[.int .i64 p, .int .i64 r, .int .i64 c] h [] (fun v h' ms' => h = h' ∧ MadeM v ms' (mkZ p r c)) := by
 refine fn_enter func23 ntmps23 rfl rfl (fun w0 hw0 => ?_)
 simp only [argS]
 refine RsQ (AlQ [.int .i64 0, .int .i64 0, .int .i64 0, .slice none 0 0] rfl el42 rfl rfl (fun g6 => RtQ (Qm rfl (Qx (ox_call rfl call45 rfl (rprime_v _ _ hI _)) rfl (Qm rfl (RtQ (Qm rfl (Qm rfl (Qx (ox_call rfl call47 rfl (rfits_v _ _ _ _)) rfl (Qm rfl (RnQ (ws_seq (RsQ (Qm rfl (Qx (ox_not rfl rfl) rfl (Qm rfl ?_))))))))))))))))
 refine wl_splitb (t := 16) rfl (fun hp => ?_) (fun hp => ?_)
 ·have hp : ¬ IsP p := by simpa using hp
  refine Qk rfl (Qk rfl (Qx (ox_pick_t rfl rfl rfl) rfl (RnQ (ws_cond_t rfl (RsQ ?_)))))
  refine Qx (ox_buildS st42 [.int .i64 0, .int .i64 0, .int .i64 0, .slice none 0 0] [] [_, _, _, _] rfl el42 rfl rfl (by repeat (first | exact trivial | refine ⟨⟨rfl, rfl, rfl⟩, ?_⟩)) rfl) rfl ?_
  refine wl_storeAll 0 [_, _, _, _] rfl el42 rfl rfl rfl (by (simp [Value.oneCell']; done)) rfl rfl rfl rfl rfl ?_
  refine RnQ (ws_ret (nx_then_ret (nx_emp ?_)))
  exact nx_retD (vs := [_, _, _, _]) 1 rfl rfl underlying42 rfl el42 rfl rfl (⟨rfl, _, _, rfl, by unfold mkZ; rw [if_neg (fun hx => hp hx.1)]; rfl, by unfold mkZ; rw [if_neg (fun hx => hp hx.1)]; exact OwnL.nil cI_len⟩)
 ·have hp : IsP p := by simpa using hp
  refine Qg (ox_move rfl rfl) rfl (Qg (ox_not rfl rfl) rfl (Qx (ox_pick_f rfl rfl rfl) rfl (RnQ ?_)))
  refine ws_cond rfl (fun hf => ?_) (fun hf => ?_)
  ·have hf : ¬ Fits r c := by simpa using hf
   refine RsQ ?_
   refine Qx (ox_buildS st42 [.int .i64 0, .int .i64 0, .int .i64 0, .slice none 0 0] [] [_, _, _, _] rfl el42 rfl rfl (by repeat (first | exact trivial | refine ⟨⟨rfl, rfl, rfl⟩, ?_⟩)) rfl) rfl ?_
   refine wl_storeAll 0 [_, _, _, _] rfl el42 rfl rfl rfl (by (simp [Value.oneCell']; done)) rfl rfl rfl rfl rfl ?_
   refine RnQ (ws_ret (nx_then_ret (nx_emp ?_)))
   exact nx_retD (vs := [_, _, _, _]) 1 rfl rfl underlying42 rfl el42 rfl rfl (⟨rfl, _, _, rfl, by unfold mkZ; rw [if_neg (fun hx => hf hx.2)]; rfl, by unfold mkZ; rw [if_neg (fun hx => hf hx.2)]; exact OwnL.nil cI_len⟩)
  ·have hf : Fits r c := by simpa using hf
   have hm := fits_mul hf
   obtain ⟨n, hn⟩ : ∃ n : Nat, r * c = n := ⟨(r * c).toNat, by omega⟩
   refine ws_skip (nx_then (RsQ (Qm rfl (Qm rfl (Qm rfl (Qm rfl (Qm rfl (Qx (ox_mul rfl rfl rfl (by omega)) rfl (wl_make (n := n) rfl underlying24 el3 rfl rfl rfl (by omega) (by omega) (by omega) (by omega) rfl rfl rfl (fun g27 => ?_))))))))))
   refine Qx (ox_buildS st42 [.int .i64 0, .int .i64 0, .int .i64 0, .slice none 0 0] [(0, _), (1, _), (2, _), (3, _)] [_, _, _, _] rfl el42 rfl rfl (by repeat (first | exact trivial | refine ⟨⟨rfl, rfl, rfl⟩, ?_⟩)) rfl) rfl ?_
   refine wl_storeAll 1 [_, _, _, _] rfl el42 rfl rfl rfl (by (simp [Value.oneCell']; done)) rfl rfl rfl rfl rfl ?_
   refine RnQ (ws_ret ?_)
   exact nx_retD (vs := [_, _, _, _]) 1 rfl rfl underlying42 rfl el42 rfl rfl (⟨rfl, _, _, rfl, by unfold mkZ; rw [if_pos ⟨hp, hf⟩], by unfold mkZ; rw [if_pos ⟨hp, hf⟩, hn]; exact OwnL.rep n 0 (by omega)⟩)
end Go.Proofs.YtdnelknieikbaaaGreat
namespace Go.Proofs.YtdnelknieikbaaaGreat
open Tryz
open Go.Eng Go.RowKit Go.Lin
variable {p : Int} {r c : Nat} {f : Nat → Nat → Int} {ev : Value} {h : Hp}
def InP (p : Int) (r c : Nat) (f : Nat → Nat → Int) : Prop := ∀ i, i < r → ∀ j, j < c → 0 ≤ f i j ∧ f i j < p
structure RtM (p : Int) (r c : Nat) (f : Nat → Nat → Int) : Prop where
 pr : IsP p
 rl : r ≤ 400
 cl : c ≤ 400
 en : InP p r c f
theorem RtM.bd (R : RtM p r c f) : 2 ≤ p ∧ p ≤ 997 := ⟨R.pr.1, R.pr.2.1⟩
theorem RtM.i64 (R : RtM p r c f) : I64 p := ⟨by have := R.bd; omega, by have := R.bd; omega⟩
theorem RtM.ok (R : RtM p r c f) : (mkM p r c f).Ok := ⟨R.i64, ⟨by have := R.rl; show _ ≤ (r : Int); omega, by have := R.rl; show (r : Int) ≤ _; omega⟩, ⟨by have := R.cl; show _ ≤ (c : Int); omega, by have := R.cl; show (c : Int) ≤ _; omega⟩⟩
theorem RtM.rt (R : RtM p r c f) : (mkM p r c f).Rt := by
 have h1 := R.rl
 have h2 := R.cl
 refine ⟨R.pr, by unfold Fits mkM; simp only; omega, by simp [mkM, mat_len], fun x hx => ?_⟩
 obtain ⟨i, j, hi, hj, rfl⟩ := mem_mat.1 hx
 exact R.en i hi j hj
theorem one2_ok (M N : FM) (ev eu : Value) (h : Hp) (hOM : M.Ok) (hON : N.Ok) (hRM : RdL cI 1 h [] ev M.e) (hRN : RdL cI 1 h [] eu N.e) : FnT Tryz.prog 121 #[.agg #[.int .i64 M.p, .int .i64 M.rows, .int .i64 M.cols, ev], .agg #[.int .i64 N.p, .int .i64 N.rows, .int .i64 N.cols, eu]] h [] (fun r _ _ => r = .bool (decide (M.Rt ∧ N.Rt ∧ M.p = N.p))) := by
 refine fn_enter func121 ntmps121 rfl rfl (fun w0 hw0 => ?_)
 simp only [argS]
 refine RsQ ?_
 refine wl_box [_, _, _, _] rfl rfl (by rfl) rfl rfl rfl (fun g2 => ?_)
 refine wl_box [_, _, _, _] rfl rfl (by rfl) rfl rfl rfl (fun g3 => ?_)
 refine Qm rfl (RtQ (Qx (ox_loadG rfl underlying42 rfl el42 rfl rfl (Seg.blk 1 rfl)) rfl (Qx (ox_call rfl call73 rfl (fnv (right_ok M ev h hOM hRM) _)) rfl (Qm rfl ?_))))
 refine wl_split (t := 7) rfl (fun hs => ?_) (fun hs => ?_)
 ·refine Qg (ox_loadG rfl underlying42 rfl el42 rfl rfl (Seg.blk 0 rfl)) rfl (Qg (ox_call rfl call73 rfl (fnv (right_ok N eu h hON hRN) _)) rfl (Qx (ox_pick_t rfl rfl rfl) rfl (Qm rfl ?_)))
  refine wl_split (t := 11) rfl (fun hs2 => ?_) (fun hs2 => ?_)
  ·refine Qg (ox_fieldF fd42_0 rfl rfl) rfl (Qg (ox_load rfl underlying3 rfl rfl (Cell.blk 1 rfl rfl)) rfl (Qg (ox_fieldF fd42_0 rfl rfl) rfl (Qg (ox_load rfl underlying3 rfl rfl (Cell.blk 0 rfl rfl)) rfl (Qg (ox_eqi rfl rfl rfl) rfl (Qx (ox_pick_t rfl rfl rfl) rfl (Qm rfl (RnQ (ws_ret ?_))))))))
   exact nx_ret1 rfl rfl (by congr 1; rw [decide_eq_decide]; simp [hs, hs2])
  ·refine Qk rfl (Qk rfl (Qk rfl (Qk rfl (Qk rfl (Qx (ox_pick_f rfl rfl rfl) rfl (Qm rfl (RnQ (ws_ret ?_))))))))
   exact nx_ret1 rfl rfl (by rw [decide_eq_false]; exact fun hx => hs2 hx.2.1)
 ·refine Qk rfl (Qk rfl (Qx (ox_pick_f rfl rfl rfl) rfl (Qm rfl (Qk rfl (Qk rfl (Qk rfl (Qk rfl (Qk rfl (Qx (ox_pick_f rfl rfl rfl) rfl (Qm rfl (RnQ (ws_ret ?_))))))))))))
  exact nx_ret1 rfl rfl (by rw [decide_eq_false]; exact fun hx => hs hx.1)
theorem one2_t {r' c' : Nat} {g : Nat → Nat → Int} {eu : Value} (R : RtM p r c f) (S : RtM p r' c' g) (hR : RdL cI 1 h [] ev (mat r c f)) (hS : RdL cI 1 h [] eu (mat r' c' g)) (ms : List Hp) : FnV Tryz.prog 121 #[.agg #[.int .i64 p, .int .i64 r, .int .i64 c, ev], .agg #[.int .i64 p, .int .i64 r', .int .i64 c', eu]] h ms (.bool true) := by
 have := fnv (one2_ok (mkM p r c f) (mkM p r' c' g) ev eu h R.ok S.ok hR hS) ms
 rw [decide_eq_true (show (mkM p r c f).Rt ∧ (mkM p r' c' g).Rt ∧ (mkM p r c f).p = (mkM p r' c' g).p from ⟨R.rt, S.rt, rfl⟩)] at this
 exact this
theorem right_t (R : RtM p r c f) (hR : RdL cI 1 h [] ev (mat r c f)) (ms : List Hp) : FnV Tryz.prog 73 #[.agg #[.int .i64 p, .int .i64 r, .int .i64 c, ev]] h ms (.bool true) := by
 have := fnv (right_ok (mkM p r c f) ev h R.ok hR) ms
 rw [decide_eq_true R.rt] at this
 exact this
theorem rright_t (R : RtM p r c f) (hR : RdL cI 1 h [] ev (mat r c f)) (ms : List Hp) : FnV Tryz.prog 46 #[.agg #[.int .i64 p, .int .i64 r, .int .i64 c, ev]] h ms (.bool true) := by
 have := fnv (rright_ok (mkM p r c f) ev h R.ok hR) ms
 rw [decide_eq_true R.rt] at this
 exact this
end Go.Proofs.YtdnelknieikbaaaGreat
namespace Go.Proofs.YtdnelknieikbaaaGreat
open Tryz
open Go.Eng Go.RowKit Go.Lin
def mulf (p : Int) (k : Nat) (f g : Nat → Nat → Int) (i j : Nat) : Int := sm k (fun t => f i t * g t j) % p
def part (p : Int) (k : Nat) (f g : Nat → Nat → Int) (i t j a b : Nat) : Int := sm (if a < i then k else if a = i then (if b < j then t + 1 else t) else 0) (fun t => f a t * g t b) % p
theorem part_zero (p : Int) (k : Nat) (f g : Nat → Nat → Int) (a b : Nat) : part p k f g 0 0 0 a b = 0 := by
 unfold part
 rw [if_neg (by omega)]
 by_cases h : a = 0
 ·rw [if_pos h, if_neg (by omega)]; exact Int.zero_emod p
 ·rw [if_neg h]; exact Int.zero_emod p
theorem part_step (p : Int) (k : Nat) (f g : Nat → Nat → Int) (i t j a b : Nat) : upd2 (part p k f g i t j) i j ((part p k f g i t j i j + f i t * g t j) % p) a b = part p k f g i t (j + 1) a b := by
 unfold upd2
 by_cases h : a = i ∧ b = j
 ·obtain ⟨rfl, rfl⟩ := h
  rw [if_pos ⟨rfl, rfl⟩]
  unfold part
  rw [if_neg (by omega), if_pos rfl, if_neg (by omega), if_neg (by omega), if_pos rfl, if_pos (by omega), Int.emod_add_emod]
  rfl
 ·rw [if_neg h]
  unfold part
  by_cases h1 : a < i
  ·rw [if_pos h1, if_pos h1]
  ·rw [if_neg h1, if_neg h1]
   by_cases h2 : a = i
   ·rw [if_pos h2, if_pos h2]
    by_cases h3 : b < j
    ·rw [if_pos h3, if_pos (by omega)]
    ·rw [if_neg h3, if_neg (by omega)]
   ·rw [if_neg h2, if_neg h2]
theorem part_next (p : Int) (k : Nat) (f g : Nat → Nat → Int) (i t c a b : Nat) (hb : b < c) : part p k f g i t c a b = part p k f g i (t + 1) 0 a b := by
 unfold part
 by_cases h1 : a < i
 ·rw [if_pos h1, if_pos h1]
 ·rw [if_neg h1, if_neg h1]
  by_cases h2 : a = i
  ·rw [if_pos h2, if_pos h2, if_pos hb, if_neg (by omega)]
  ·rw [if_neg h2, if_neg h2]
theorem part_row (p : Int) (k : Nat) (f g : Nat → Nat → Int) (i a b : Nat) : part p k f g i k 0 a b = part p k f g (i + 1) 0 0 a b := by
 unfold part
 by_cases h1 : a < i
 ·rw [if_pos h1, if_pos (by omega)]
 ·rw [if_neg h1]
  by_cases h2 : a = i
  ·rw [if_pos h2, if_neg (by omega), if_pos (by omega)]
  ·rw [if_neg h2, if_neg (by omega)]
   by_cases h3 : a = i + 1
   ·rw [if_pos h3, if_neg (by omega)]
   ·rw [if_neg h3]
theorem part_all (p : Int) (k : Nat) (f g : Nat → Nat → Int) (r a b : Nat) (ha : a < r) : part p k f g r 0 0 a b = mulf p k f g a b := by
 unfold part mulf
 rw [if_pos ha]
theorem part_bd {p : Int} (hp : 0 < p) (k : Nat) (f g : Nat → Nat → Int) (i t j a b : Nat) : 0 ≤ part p k f g i t j a b ∧ part p k f g i t j a b < p :=
 ⟨Int.emod_nonneg _ (by omega), Int.emod_lt_of_pos _ hp⟩
theorem mul_bd {a b p : Int} (ha : 0 ≤ a ∧ a < p) (hb : 0 ≤ b ∧ b < p) (hp : p ≤ 997) : 0 ≤ a * b ∧ a * b ≤ 994009 := by
 refine ⟨Int.mul_nonneg ha.1 hb.1, ?_⟩
 have := Int.mul_le_mul (show a ≤ 997 by omega) (show b ≤ 997 by omega) hb.1 (by omega : (0 : Int) ≤ 997)
 omega
theorem mul_ok (p : Int) (r k c : Nat) (f g : Nat → Nat → Int) (ev eu : Value) (h : Hp) (R : RtM p r k f) (S : RtM p k c g) (hR : RdL cI 1 h [] ev (mat r k f)) (hS : RdL cI 1 h [] eu (mat k c g)) :
  FnT Tryz.prog 98 #[.agg #[.int .i64 p, .int .i64 r, .int .i64 k, ev], .agg #[.int .i64 p, .int .i64 k, .int .i64 c, eu]] h [] (fun x h' ms' => h = h' ∧ ∃ v, x = .tuple #[v, .bool true] ∧ MadeM v ms' (mkM p r c (mulf p k f g))) := by
 have hb := R.bd
 have rl := R.rl
 have kl := R.cl
 have cl := S.cl
 refine fn_enter func98 ntmps98 rfl rfl (fun w0 hw0 => ?_)
 simp only [argS]
 refine RsQ ?_
 refine wl_box [_, _, _, _] rfl rfl (by rfl) rfl rfl rfl (fun g2 => ?_)
 refine wl_box [_, _, _, _] rfl rfl (by rfl) rfl rfl rfl (fun g3 => ?_)
 refine AlQ [.int .i64 0, .int .i64 0, .int .i64 0, .slice none 0 0] rfl el42 rfl rfl (fun g4 => Qm rfl (RnQ (ws_seq (RsQ (Qx (ox_loadG rfl underlying42 rfl el42 rfl rfl (Seg.blk 2 rfl)) rfl (Qx (ox_loadG rfl underlying42 rfl el42 rfl rfl (Seg.blk 1 rfl)) rfl (Qx (ox_call rfl call121 rfl (one2_t R S hR hS _)) rfl (Qx (ox_not rfl rfl) rfl (Qm rfl (Qg (ox_fieldF fd42_2 rfl rfl) rfl (Qg (ox_load rfl underlying3 rfl rfl (Cell.blk 2 rfl rfl)) rfl (Qg (ox_fieldF fd42_1 rfl rfl) rfl (Qg (ox_load rfl underlying3 rfl rfl (Cell.blk 1 rfl rfl)) rfl (Qg (ox_nei rfl rfl rfl) rfl (Qx (ox_pick_f rfl rfl rfl) rfl (RnQ (ws_if rfl (fun hc => absurd hc (by omega)) (fun hc => ws_skip (nx_then (RsQ (Qx (ox_fieldF fd42_0 rfl rfl) rfl (Qx (ox_load rfl underlying3 rfl rfl (Cell.blk 2 rfl rfl)) rfl (Qx (ox_fieldF fd42_1 rfl rfl) rfl (Qx (ox_load rfl underlying3 rfl rfl (Cell.blk 2 rfl rfl)) rfl (Qx (ox_fieldF fd42_2 rfl rfl) rfl (Qx (ox_load rfl underlying3 rfl rfl (Cell.blk 1 rfl rfl)) rfl (wl_call rfl call106 rfl (zero_ok p r c h R.i64) rfl rfl rfl (fun v h1 ms1 l1 hF => ?_))))))))))))))))))))))))))))
 obtain ⟨rfl, ew, m, rfl, rfl, hO⟩ := hF
 rw [mkZ_nat R.pr rl cl] at hO ⊢
 have he1 : ew.oneCell' = true := (hO.rd (h := h) (ms := [m]) (List.Mem.head _)).rd.one
 refine AlQ [.int .i64 0, .int .i64 0, .int .i64 0, .slice none 0 0] rfl el42 rfl rfl (fun g6 => ?_)
 refine wl_storeAll 0 [_, _, _, _] rfl el42 rfl rfl rfl (by (simp [he1]; done)) rfl rfl rfl rfl rfl ?_
 refine RnQ (ws_seq (RsQ (Qx (ox_fieldF fd42_1 rfl rfl) rfl (Qx (ox_load rfl underlying3 rfl rfl (Cell.blk 4 rfl rfl)) rfl (Qm rfl (RnQ (ws_block ?_)))))))
 refine ws_loop (fun q s h' ms' => ∃ (i : Nat) (m : Hp), q = r - i ∧ s = [(2, .pointer (some ⟨g2, 0, none⟩)), (3, .pointer (some ⟨g3, 0, none⟩)), (4, .pointer (some ⟨g4, 0, none⟩)), (6, .pointer (some ⟨g6, 0, none⟩)), (33, .int .i64 r), (34, .int .i64 i)] ∧ h = h' ∧ ms' = [Blk g6 42 [.int .i64 p, .int .i64 r, .int .i64 c, ew], m, Blk g4 42 [.int .i64 0, .int .i64 0, .int .i64 0, .slice none 0 0], Blk g3 42 [.int .i64 p, .int .i64 k, .int .i64 c, eu], Blk g2 42 [.int .i64 p, .int .i64 r, .int .i64 k, ev]] ∧ i ≤ r ∧ OwnL cI 1 3 m ew (mat r c (part p k f g i 0 0)))
  (r - 0) _ ⟨0, m, rfl, rfl, rfl, rfl, by omega, by rw [mat_congr (g := fun _ _ => 0) (fun a _ b _ => part_zero p k f g a b)]; exact hO⟩ Qs ?_
 rintro q s h' ms' ⟨i, m, rfl, rfl, rfl, rfl, hi, hO⟩
 refine RsQ (Qx (ox_lss rfl rfl rfl) rfl (RnQ (ws_seq ?_)))
 refine ws_if rfl (fun hlt => ?_) (fun hlt => ?_)
 ·have hir : i < r := by omega
  have e1 : (i + 1) * k = i * k + k := by rw [Nat.add_mul, Nat.one_mul]
  have b1 : (i + 1) * k ≤ r * k := Nat.mul_le_mul_right k hir
  have b2 : r * k ≤ 400 * 400 := Nat.mul_le_mul rl kl
  have el : (mat r k f).length = r * k := mat_len _ _ _
  have e3 : ((i : Int) + 1) * k = i * k + k := by rw [Int.add_mul, Int.one_mul]
  refine ws_skip (nx_then (ws_seq (ws_block (RsQ (Qm rfl (Qm rfl (RtQ (Qx (ox_fieldF fd42_3 rfl rfl) rfl (Qx (ox_load rfl underlying24 rfl rfl (Cell.blk 4 rfl rfl)) rfl (Qm rfl (Qx (ox_fieldF fd42_2 rfl rfl) rfl (Qx (ox_load rfl underlying3 rfl rfl (Cell.blk 4 rfl rfl)) rfl (Qx (ox_mul rfl rfl rfl (by omega)) rfl (Qm rfl (Qx (ox_add rfl rfl rfl (by omega)) rfl (Qx (ox_fieldF fd42_2 rfl rfl) rfl (Qx (ox_load rfl underlying3 rfl rfl (Cell.blk 4 rfl rfl)) rfl (Qx (ox_mul rfl rfl rfl (by omega)) rfl (Qx (ox_sliceR_lh (i * k) ((i + 1) * k) hR.rd.any rfl underlying24 el3 rfl rfl rfl (by omega) (by omega) (by omega) (by omega)) rfl (Qx (ox_lenR (hR.row hir).rd.any rfl underlying24 rfl) rfl (Qm rfl (RnQ (ws_block ?_)))))))))))))))))))))))
  refine ws_loop (fun q s h' ms' => ∃ (t : Nat) (m : Hp), q = k - t ∧ s = [(2, .pointer (some ⟨g2, 0, none⟩)), (3, .pointer (some ⟨g3, 0, none⟩)), (4, .pointer (some ⟨g4, 0, none⟩)), (6, .pointer (some ⟨g6, 0, none⟩)), (7, .int .i64 i), (33, .int .i64 r), (34, .int .i64 i), (48, vsub 1 ev (i * k) ((i + 1) * k)), (49, .int .i64 ((vec k (f i)).length : Nat)), (50, .int .i64 t)] ∧ h = h' ∧ ms' = [Blk g6 42 [.int .i64 p, .int .i64 r, .int .i64 c, ew], m, Blk g4 42 [.int .i64 0, .int .i64 0, .int .i64 0, .slice none 0 0], Blk g3 42 [.int .i64 p, .int .i64 k, .int .i64 c, eu], Blk g2 42 [.int .i64 p, .int .i64 r, .int .i64 k, ev]] ∧ t ≤ k ∧ OwnL cI 1 3 m ew (mat r c (part p k f g i t 0)))
   (k - 0) _ ⟨0, m, rfl, rfl, rfl, rfl, by omega, hO⟩ Qs ?_
  rintro q s h' ms' ⟨t, m, rfl, rfl, rfl, rfl, ht, hO⟩
  have ek := vec_len k (f i)
  refine RsQ (Qx (ox_lss rfl rfl rfl) rfl (RnQ (ws_seq ?_)))
  refine ws_if rfl (fun hlt2 => ?_) (fun hlt2 => ?_)
  ·have htk : t < k := by omega
   have d1 : (t + 1) * c = t * c + c := by rw [Nat.add_mul, Nat.one_mul]
   have c1 : (t + 1) * c ≤ k * c := Nat.mul_le_mul_right c htk
   have c2 : k * c ≤ 400 * 400 := Nat.mul_le_mul kl cl
   have el2 : (mat k c g).length = k * c := mat_len _ _ _
   have d3 : ((t : Int) + 1) * c = t * c + c := by rw [Int.add_mul, Int.one_mul]
   refine ws_skip (nx_then (ws_seq (ws_block (RsQ (Qm rfl (Qx (ox_indexR _ (hR.row hir).rd.any rfl underlying24 el3 rfl rfl rfl (by omega)) rfl (Qx (ox_load rfl underlying3 rfl rfl ((hR.row hir).any.ev htk)) rfl (Qm rfl (Qm rfl (RtQ (Qx (ox_fieldF fd42_3 rfl rfl) rfl (Qx (ox_load rfl underlying24 rfl rfl (Cell.blk 3 rfl rfl)) rfl (Qm rfl (Qx (ox_fieldF fd42_2 rfl rfl) rfl (Qx (ox_load rfl underlying3 rfl rfl (Cell.blk 3 rfl rfl)) rfl (Qx (ox_mul rfl rfl rfl (by omega)) rfl (Qm rfl (Qx (ox_add rfl rfl rfl (by omega)) rfl (Qx (ox_fieldF fd42_2 rfl rfl) rfl (Qx (ox_load rfl underlying3 rfl rfl (Cell.blk 3 rfl rfl)) rfl (Qx (ox_mul rfl rfl rfl (by omega)) rfl (Qx (ox_sliceR_lh (t * c) ((t + 1) * c) hS.rd.any rfl underlying24 el3 rfl rfl rfl (by omega) (by omega) (by omega) (by omega)) rfl (Qx (ox_lenR (hS.row htk).rd.any rfl underlying24 rfl) rfl (Qm rfl (RnQ (ws_block ?_))))))))))))))))))))))))))
   refine ws_loop (fun q s h' ms' => ∃ (j : Nat) (m : Hp), q = c - j ∧ s = [(2, .pointer (some ⟨g2, 0, none⟩)), (3, .pointer (some ⟨g3, 0, none⟩)), (4, .pointer (some ⟨g4, 0, none⟩)), (6, .pointer (some ⟨g6, 0, none⟩)), (7, .int .i64 i), (9, .int .i64 (f i t)), (33, .int .i64 r), (34, .int .i64 i), (48, vsub 1 ev (i * k) ((i + 1) * k)), (49, .int .i64 ((vec k (f i)).length : Nat)), (50, .int .i64 t), (66, vsub 1 eu (t * c) ((t + 1) * c)), (67, .int .i64 ((vec c (g t)).length : Nat)), (68, .int .i64 j)] ∧ h = h' ∧ ms' = [Blk g6 42 [.int .i64 p, .int .i64 r, .int .i64 c, ew], m, Blk g4 42 [.int .i64 0, .int .i64 0, .int .i64 0, .slice none 0 0], Blk g3 42 [.int .i64 p, .int .i64 k, .int .i64 c, eu], Blk g2 42 [.int .i64 p, .int .i64 r, .int .i64 k, ev]] ∧ j ≤ c ∧ OwnL cI 1 3 m ew (mat r c (part p k f g i t j)))
    (c - 0) _ ⟨0, m, rfl, rfl, rfl, rfl, by omega, hO⟩ Qs ?_
   rintro q s h' ms' ⟨j, m, rfl, rfl, rfl, rfl, hj, hO⟩
   have ec := vec_len c (g t)
   refine RsQ (Qx (ox_lss rfl rfl rfl) rfl (RnQ (ws_seq ?_)))
   refine ws_if rfl (fun hlt3 => ?_) (fun hlt3 => ?_)
   ·have hjc : j < c := by omega
    have hix := ix_lt hir hjc
    have hrc : r * c ≤ 400 * 400 := Nat.mul_le_mul rl cl
    have el3' : (mat r c (part p k f g i t j)).length = r * c := mat_len _ _ _
    have hbp := part_bd (show 0 < p by omega) k f g i t j i j
    have hbm := mul_bd (R.en i hir t htk) (S.en t htk j hjc) hb.2
    have hfb := R.en i hir t htk
    have hgb := S.en t htk j hjc
    refine ws_skip (nx_then (ws_seq (ws_block (RsQ (Qm rfl (Qx (ox_indexR _ (hS.row htk).rd.any rfl underlying24 el3 rfl rfl rfl (by omega)) rfl (Qx (ox_load rfl underlying3 rfl rfl ((hS.row htk).any.ev hjc)) rfl (Qm rfl (Qm rfl (RtQ (Qm rfl (Qx (ox_fieldF fd42_2 rfl rfl) rfl (Qx (ox_load rfl underlying3 rfl rfl (Cell.blk 3 rfl rfl)) rfl (Qx (ox_mul rfl rfl rfl (by omega)) rfl (Qm rfl (Qx (ox_add rfl rfl rfl (by omega)) rfl (Qm rfl (RnQ (ws_draw 15 fol (by kernel_rfl) rfl (wr_x (ox_fieldF fd42_3 rfl rfl) rfl rfl (wr_x (ox_load rfl underlying24 rfl rfl (Cell.blk 0 rfl rfl)) rfl rfl (wr_x (ox_move rfl rfl) rfl rfl (wr_x (ox_fieldF fd42_3 rfl rfl) rfl rfl (wr_x (ox_load rfl underlying24 rfl rfl (Cell.blk 0 rfl rfl)) rfl rfl (wr_x (ox_move rfl rfl) rfl rfl (wr_x (ox_indexR (i * c + j) (hO.rd (List.Mem.tail _ (List.Mem.head _))).rd rfl underlying24 el3 rfl rfl (by omega) (by omega)) rfl rfl (wr_x (ox_load rfl underlying3 rfl rfl ((hO.rd (ms := [Blk g6 42 [.int .i64 p, .int .i64 r, .int .i64 c, ew], m, Blk g4 42 [.int .i64 0, .int .i64 0, .int .i64 0, .slice none 0 0], Blk g3 42 [.int .i64 p, .int .i64 k, .int .i64 c, eu], Blk g2 42 [.int .i64 p, .int .i64 r, .int .i64 k, ev]]) (List.Mem.tail _ (List.Mem.head _))).ent hir hjc)) rfl rfl (wr_x (ox_move rfl rfl) rfl rfl (wr_x (ox_move rfl rfl) rfl rfl (wr_x (ox_mul rfl rfl rfl (by omega)) rfl rfl (wr_x (ox_add rfl rfl rfl (by omega)) rfl rfl (wr_x (ox_fieldF fd42_0 rfl rfl) rfl rfl (wr_x (ox_load rfl underlying3 rfl rfl (Cell.blk 4 rfl rfl)) rfl rfl (wr_x (ox_remP rfl rfl rfl (by omega) (by omega)) rfl rfl (wr_nil (Qx (ox_indexR (i * c + j) (hO.rd (List.Mem.tail _ (List.Mem.head _))).rd rfl underlying24 el3 rfl rfl (by omega) (by omega)) rfl (wl_storeN 1 (i * c + j) hO rfl el3 rfl rfl rfl (by omega) rfl rfl (fun m' hO' => wl_nil (nx_block ?_)))))))))))))))))))))))))))))))))))))))
    refine nx_then (ws_region (Qx (ox_add rfl rfl rfl (by omega)) rfl (Qm rfl (wl_nil ?_))))
    refine nx_round (c - (j + 1)) _ (by omega) ⟨j + 1, m', rfl, rfl, rfl, rfl, by omega, ?_⟩ Qs
    rw [mat_set _ hjc, mat_congr (fun a _ b _ => part_step p k f g i t j a b)] at hO'
    exact hO'
   ·refine ws_exit (nx_then_exit (nx_then_exit (nx_block_exit (nx_block (nx_then (ws_region (Qx (ox_add rfl rfl rfl (by omega)) rfl (Qm rfl (wl_nil ?_)))))))))
    obtain rfl : j = c := by omega
    refine nx_round (k - (t + 1)) _ (by omega) ⟨t + 1, m, rfl, rfl, rfl, rfl, by omega, ?_⟩ Qs
    rw [mat_congr (fun a _ b hb => part_next p k f g i t j a b hb)] at hO
    exact hO
  ·refine ws_exit (nx_then_exit (nx_then_exit (nx_block_exit (nx_block (nx_then (ws_region (Qx (ox_add rfl rfl rfl (by omega)) rfl (Qm rfl (wl_nil ?_)))))))))
   obtain rfl : t = k := by omega
   refine nx_round (r - (i + 1)) _ (by omega) ⟨i + 1, m, rfl, rfl, rfl, rfl, by omega, ?_⟩ Qs
   rw [mat_congr (fun a _ b hb => part_row p t f g i a b)] at hO
   exact hO
 ·refine ws_exit (nx_then_exit (nx_then_exit (nx_block_exit (nx_then (RsQ (Qx (ox_loadG rfl underlying42 rfl el42 rfl rfl (Seg.blk 0 rfl)) rfl ?_))))))
  refine wl_storeAll 2 [_, _, _, _] rfl el42 rfl rfl rfl (by (simp [he1]; done)) rfl rfl rfl rfl rfl ?_
  refine Qm rfl (RnQ (ws_ret ?_))
  obtain rfl : i = r := by omega
  refine nx_dropAt 4 rfl (nx_dropAt 3 rfl (nx_dropAt 0 rfl ?_))
  exact nx_retD2 (vs := [_, _, _, _]) 1 rfl rfl rfl underlying42 rfl el42 rfl rfl (⟨rfl, _, rfl, ew, m, rfl, rfl, by rw [mat_congr (fun a ha b hb => part_all p k f g i a b ha)] at hO; exact hO⟩)
end Go.Proofs.YtdnelknieikbaaaGreat
namespace Go.Proofs.YtdnelknieikbaaaGreat
open Tryz
open Go.Eng Go.RowKit Go.Lin
def jn (c : Nat) (f g : Nat → Nat → Int) (i j : Nat) : Int := if j < c then f i j else g i (j - c)
theorem jn_row (c c' : Nat) (f g : Nat → Nat → Int) (k : Nat) : mat k (c + c') (jn c f g) ++ vec c (f k) ++ vec c' (g k) = mat (k + 1) (c + c') (jn c f g) := by
 rw [List.append_assoc, mat_join, ← mat_row_succ]
 rfl
theorem join_ok (p : Int) (r c c' : Nat) (f g : Nat → Nat → Int) (ev eu : Value) (h : Hp) (R : RtM p r c f) (S : RtM p r c' g) (hR : RdL cI 1 h [] ev (mat r c f)) (hS : RdL cI 1 h [] eu (mat r c' g)) :
  FnT Tryz.prog 137 #[.agg #[.int .i64 p, .int .i64 r, .int .i64 c, ev], .agg #[.int .i64 p, .int .i64 r, .int .i64 c', eu]] h [] (fun x h' ms' => h.le h' ∧ MadeM x ms' (mkM p r (c + c') (jn c f g))) := by
 have hb := R.bd
 have rl := R.rl
 have kl := R.cl
 have cl := S.cl
 have o1 := hR.rd.one
 have o2 := hS.rd.one
 refine fn_enter func137 ntmps137 rfl rfl (fun w0 hw0 => ?_)
 simp only [argS]
 refine RsQ ?_
 refine wl_box [_, _, _, _] rfl rfl (by rfl) rfl rfl rfl (fun g2 => ?_)
 refine wl_freezeB fun h1 l1 hA => ?_
 have hR := hR.up l1
 have hS := hS.up l1
 refine wl_box [_, _, _, _] rfl rfl (by rfl) rfl rfl rfl (fun g3 => ?_)
 refine wl_freezeB fun h2 l2 hB => ?_
 have hR := hR.up l2
 have hS := hS.up l2
 have hA := Seg.all (hA.le l2)
 have hB := Seg.all hB
 have l12 := Hp.le_trans l1 l2
 have hA0 := hA 0 _ rfl
 have hB0 := hB 0 _ rfl
 refine AlQ [.int .i64 0, .int .i64 0, .int .i64 0, .slice none 0 0] rfl el42 rfl rfl (fun g4 => RtQ (Qx (ox_fieldF fd42_0 rfl rfl) rfl (Qx (ox_load rfl underlying3 rfl rfl (hA _ _ rfl _)) rfl (Qx (ox_fieldF fd42_1 rfl rfl) rfl (Qx (ox_load rfl underlying3 rfl rfl (hA _ _ rfl _)) rfl (Qx (ox_fieldF fd42_2 rfl rfl) rfl (Qx (ox_load rfl underlying3 rfl rfl (hA _ _ rfl _)) rfl (Qx (ox_fieldF fd42_2 rfl rfl) rfl (Qx (ox_load rfl underlying3 rfl rfl (hB _ _ rfl _)) rfl (Qx (ox_add rfl rfl rfl (by omega)) rfl ?_))))))))))
 refine Qx (ox_buildS st42 [.int .i64 0, .int .i64 0, .int .i64 0, .slice none 0 0] [(0, _), (1, _), (2, _)] [_, _, _, _] rfl el42 rfl rfl (by repeat (first | exact trivial | refine ⟨⟨rfl, rfl, rfl⟩, ?_⟩)) rfl) rfl ?_
 refine AlQ [.int .i64 0, .int .i64 0, .int .i64 0, .slice none 0 0] rfl el42 rfl rfl (fun g5 => ?_)
 refine wl_storeAll 0 [_, _, _, _] rfl el42 rfl rfl rfl (by (simp [Value.oneCell']; done)) rfl rfl rfl rfl rfl ?_
 refine RnQ (ws_seq (RsQ (Qx (ox_fieldF fd42_1 rfl rfl) rfl (Qx (ox_load rfl underlying3 rfl rfl (hA _ _ rfl _)) rfl (Qm rfl (RnQ (ws_block (ws_emp ?_))))))))
 refine ws_loop (fun q s h' ms' => ∃ (k : Nat) (m : Hp) (ek : Value), q = r - k ∧ s = [(2, .pointer (some ⟨g2, 0, none⟩)), (3, .pointer (some ⟨g3, 0, none⟩)), (4, .pointer (some ⟨g4, 0, none⟩)), (5, .pointer (some ⟨g5, 0, none⟩)), (18, .int .i64 r), (19, .int .i64 k)] ∧ h2 = h' ∧ ms' = [m, Blk g5 42 [.int .i64 p, .int .i64 r, .int .i64 (c + c'), ek], Blk g4 42 [.int .i64 0, .int .i64 0, .int .i64 0, .slice none 0 0]] ∧ k ≤ r ∧ OwnL cI 1 3 m ek (mat k (c + c') (jn c f g)))
  (r - 0) _ ⟨0, _, _, rfl, rfl, rfl, rfl, by omega, by unfold mat; rw [Nat.zero_mul]; exact OwnL.nil cI_len⟩ Qs ?_
 rintro q s h' ms' ⟨k, m, ek, rfl, rfl, rfl, rfl, hk, hO⟩
 have oe : ek.oneCell' = true := (hO.rd (h := h2) (ms := [m]) (List.Mem.head _)).rd.one
 refine RsQ (Qx (ox_lss rfl rfl rfl) rfl (RnQ (ws_seq ?_)))
 refine ws_if rfl (fun hlt => ?_) (fun hlt => ?_)
 ·have hkr : k < r := by omega
  have e1 : (k + 1) * c = k * c + c := by rw [Nat.add_mul, Nat.one_mul]
  have b1 : (k + 1) * c ≤ r * c := Nat.mul_le_mul_right c hkr
  have b2 : r * c ≤ 400 * 400 := Nat.mul_le_mul rl kl
  have el : (mat r c f).length = r * c := mat_len _ _ _
  have e3 : ((k : Int) + 1) * c = k * c + c := by rw [Int.add_mul, Int.one_mul]
  have e1' : (k + 1) * c' = k * c' + c' := by rw [Nat.add_mul, Nat.one_mul]
  have b1' : (k + 1) * c' ≤ r * c' := Nat.mul_le_mul_right c' hkr
  have b2' : r * c' ≤ 400 * 400 := Nat.mul_le_mul rl cl
  have el' : (mat r c' g).length = r * c' := mat_len _ _ _
  have e3' : ((k : Int) + 1) * c' = k * c' + c' := by rw [Int.add_mul, Int.one_mul]
  have z1 : (mat k (c + c') (jn c f g)).length = k * (c + c') := mat_len _ _ _
  have z2 : k * (c + c') ≤ 400 * 800 := Nat.mul_le_mul (by omega) (by omega)
  have z3 := vec_len c (f k)
  have z4 := vec_len c' (g k)
  refine ws_skip (nx_then (ws_seq (ws_block (RsQ (Qm rfl (Qm rfl (RnQ (ws_stab (n := 30) (bs := [true, false, true, true, true, true, true, true, true, true, true, true, true, true, false, true, true, true, true, true, true, true, true, true, true, true, true, false, true, false]) [true, false, true, true, true, true, true, true, true, true, true, true, true, true, false, true, true, true, true, true, true, true, true, true, true, true, true, false, true] fol (by kernel_rfl) (by kernel_rfl) rfl rfl (Qp rfl (ox_fieldF fd42_3 rfl rfl) (Qp rfl (ox_fieldF fd42_3 rfl rfl) (Qp rfl (ox_load rfl underlying24 rfl rfl (hA _ _ rfl _)) (Qp rfl (ox_move rfl rfl) (Qp rfl (ox_fieldF fd42_2 rfl rfl) (Qp rfl (ox_load rfl underlying3 rfl rfl (hA _ _ rfl _)) (Qp rfl (ox_mul rfl rfl rfl (by omega)) (Qp rfl (ox_move rfl rfl) (Qp rfl (ox_add rfl rfl rfl (by omega)) (Qp rfl (ox_fieldF fd42_2 rfl rfl) (Qp rfl (ox_load rfl underlying3 rfl rfl (hA _ _ rfl _)) (Qp rfl (ox_mul rfl rfl rfl (by omega)) (Qp rfl (ox_sliceR_lh (k * c) ((k + 1) * c) hR.rd.any rfl underlying24 el3 rfl rfl rfl (by omega) (by omega) (by omega) (by omega)) (Qp rfl (ox_fieldF fd42_3 rfl rfl) (Qp rfl (ox_load rfl underlying24 rfl rfl (hB _ _ rfl _)) (Qp rfl (ox_move rfl rfl) (Qp rfl (ox_fieldF fd42_2 rfl rfl) (Qp rfl (ox_load rfl underlying3 rfl rfl (hB _ _ rfl _)) (Qp rfl (ox_mul rfl rfl rfl (by omega)) (Qp rfl (ox_move rfl rfl) (Qp rfl (ox_add rfl rfl rfl (by omega)) (Qp rfl (ox_fieldF fd42_2 rfl rfl) (Qp rfl (ox_load rfl underlying3 rfl rfl (hB _ _ rfl _)) (Qp rfl (ox_mul rfl rfl rfl (by omega)) (Qp rfl (ox_sliceR_lh (k * c') ((k + 1) * c') hS.rd.any rfl underlying24 el3 rfl rfl rfl (by omega) (by omega) (by omega) (by omega)) (Qp rfl (ox_fieldF fd42_3 rfl rfl) ?_))))))))))))))))))))))))))))))))))
  unfold PZs
  simp only [List.cons_append, List.nil_append]
  refine Qo 1 rfl (Qx (ox_load rfl underlying24 rfl rfl (Cell.blk 1 rfl rfl)) rfl (Qw (Qo 14 rfl ?_)))
  refine wl_appendL 0 hO (hR.row hkr).any rfl underlying24 el3 rfl (by omega) rfl rfl rfl cI_one (by simp only [List.length_append, z1, z3, z4]; omega) (by simp only [List.length_append, z1, z3, z4]; omega) rfl rfl rfl (fun v1 m1 hO1 => ?_)
  refine Qw (Qo 27 rfl ?_)
  refine wl_appendL 0 hO1 (hS.row hkr).any rfl underlying24 el3 rfl (by omega) rfl rfl rfl cI_one (by simp only [List.length_append, z1, z3, z4]; omega) (by simp only [List.length_append, z1, z3, z4]; omega) rfl rfl rfl (fun v2 m2 hO2 => ?_)
  refine Qw ?_
  have ov2 : v2.oneCell' = true := (hO2.rd (h := h2) (ms := [m2]) (List.Mem.head _)).rd.one
  refine Qo 29 rfl ?_
  refine wl_storeAt 1 _ rfl el24 rfl rfl (by assumption) rfl rfl (by (simp; done)) rfl rfl ?_
  refine Qw (Qe (nx_block (nx_then (ws_region (Qx (ox_add rfl rfl rfl (by omega)) rfl (Qm rfl (wl_nil ?_)))))))
  refine nx_round (r - (k + 1)) _ (by omega) ⟨k + 1, m2, v2, rfl, rfl, rfl, rfl, by omega, by rw [jn_row] at hO2; exact hO2⟩ Qs
 ·refine ws_exit (nx_then_exit (nx_then_exit (nx_block_exit (nx_then (RsQ (Qx (ox_loadG rfl underlying42 rfl el42 rfl rfl (Seg.blk 1 rfl)) rfl ?_))))))
  refine wl_storeAll 2 [_, _, _, _] rfl el42 rfl rfl rfl (by (simp [oe]; done)) rfl rfl rfl rfl rfl ?_
  refine RnQ (ws_ret ?_)
  obtain rfl : k = r := by omega
  refine nx_dropAt 1 rfl ?_
  exact nx_retD (vs := [_, _, _, _]) 1 rfl rfl underlying42 rfl el42 rfl rfl (⟨l12, ek, m, rfl, rfl, hO⟩)
end Go.Proofs.YtdnelknieikbaaaGreat
namespace Go.Proofs.YtdnelknieikbaaaGreat
open Tryz
open Go.Eng Go.RowKit Go.Lin
def cR (p : Int) (r c : Nat) (ev : Value) (ov : List Value) : List Value := .int .i64 p :: .int .i64 r :: .int .i64 c :: ev :: ov
abbrev BR (g : Nat) (p : Int) (r c : Nat) (ev : Value) (ov : List Value) : Hp := Blk g 184 (cR p r c ev ov)
theorem row_v (g : Nat) (p : Int) (r c : Nat) (f : Nat → Nat → Int) (ev : Value) (ov : List Value) (i : Nat) (h : Hp) (hS : Seg h [] ⟨g, 0, none⟩ (cR p r c ev ov)) (hR : RdL cI 1 h [] ev (mat r c f)) (hi : i < r) (hr : r ≤ 400) (hc : c ≤ 800) :
  FnV Tryz.prog 146 #[.pointer (some ⟨g, 0, none⟩), .int .i64 i] h [] (vsub 1 ev (i * c) ((i + 1) * c)) := by
 refine FnT.toV ?_
 have hA := Seg.all hS
 have hA0 := hA 0 _ rfl
 have e1 : (i + 1) * c = i * c + c := by rw [Nat.add_mul, Nat.one_mul]
 have b1 : (i + 1) * c ≤ r * c := Nat.mul_le_mul_right c hi
 have b2 : r * c ≤ 400 * 800 := Nat.mul_le_mul hr hc
 have el : (mat r c f).length = r * c := mat_len _ _ _
 have e3 : ((i : Int) + 1) * c = i * c + c := by rw [Int.add_mul, Int.one_mul]
 have hz : ∀ a : Addr, (a.add 0).add 3 = a.add 3 := fun a => by rw [addr_add_add]
 refine fn_enter func146 ntmps146 rfl rfl (fun w0 hw0 => ?_)
 simp only [argS]
 refine RsQ (Qm rfl (RnQ (ws_seq (ws_stab (n := 22) (bs := [true, true, true, true, true, true, true, true, true, true, true, true, true, true, true, true, true, true, true, true, true, false]) [true, true, true, true, true, true, true, true, true, true, true, true, true, true, true, true, true, true, true, true, true] fol (by kernel_rfl) (by kernel_rfl) rfl rfl (Qp rfl (ox_move rfl rfl) (Qp rfl (ox_nilCheck rfl rfl) (Qp rfl (ox_fieldF fd184_0 rfl rfl) (Qp rfl (ox_fieldF fd42_3 rfl rfl) (Qp rfl (ox_load rfl underlying24 rfl rfl (hA _ _ rfl _)) (Qp rfl (ox_move rfl rfl) (Qp rfl (ox_move rfl rfl) (Qp rfl (ox_nilCheck rfl rfl) (Qp rfl (ox_fieldF fd184_0 rfl rfl) (Qp rfl (ox_fieldF fd42_2 rfl rfl) (Qp rfl (ox_load rfl underlying3 rfl rfl (hA _ _ rfl _)) (Qp rfl (ox_mul rfl rfl rfl (by omega)) (Qp rfl (ox_move rfl rfl) (Qp rfl (ox_add rfl rfl rfl (by omega)) (Qp rfl (ox_move rfl rfl) (Qp rfl (ox_nilCheck rfl rfl) (Qp rfl (ox_fieldF fd184_0 rfl rfl) (Qp rfl (ox_fieldF fd42_2 rfl rfl) (Qp rfl (ox_load rfl underlying3 rfl rfl (hA _ _ rfl _)) (Qp rfl (ox_mul rfl rfl rfl (by omega)) (Qp rfl (ox_sliceR_lh (i * c) ((i + 1) * c) hR.rd.any rfl underlying24 el3 rfl rfl rfl (by omega) (by omega) (by omega) (by omega)) ?_)))))))))))))))))))))))))
 unfold PZs
 simp only [List.cons_append, List.nil_append]
 refine Qo 21 rfl (Qm rfl (Qw (Qe (nx_then (ws_ret ?_)))))
 exact nx_ret1 rfl rfl (rfl)
end Go.Proofs.YtdnelknieikbaaaGreat
namespace Go.Proofs.YtdnelknieikbaaaGreat
open Tryz
open Go.Eng Go.RowKit Go.Lin
def turn (f : Nat → Nat → Int) (i : Nat) (G : Nat → Int) (k a b : Nat) : Int := if a = i ∧ b < k then G b else f a b
theorem turn_zero (f : Nat → Nat → Int) (i : Nat) (G : Nat → Int) (a b : Nat) : turn f i G 0 a b = f a b := if_neg (by omega)
theorem turn_at (f : Nat → Nat → Int) (i : Nat) (G : Nat → Int) (k : Nat) : turn f i G k i k = f i k := if_neg (by omega)
theorem turn_ne (f : Nat → Nat → Int) (i : Nat) (G : Nat → Int) (k a b : Nat) (h : a ≠ i) : turn f i G k a b = f a b := if_neg (by omega)
theorem turn_step (f : Nat → Nat → Int) (i : Nat) (G : Nat → Int) (k a b : Nat) : upd2 (turn f i G k) i k (G k) a b = turn f i G (k + 1) a b := by
 unfold upd2 turn
 by_cases h : a = i ∧ b = k
 ·rw [if_pos h, if_pos (by omega), h.2]
 ·rw [if_neg h]
  by_cases h2 : a = i ∧ b < k
  ·rw [if_pos h2, if_pos (by omega)]
  ·rw [if_neg h2, if_neg (by omega)]
theorem turn_all (f : Nat → Nat → Int) (i : Nat) (G : Nat → Int) (c a b : Nat) (hb : b < c) : turn f i G c a b = if a = i then G b else f a b := by
 unfold turn
 by_cases h : a = i
 ·rw [if_pos ⟨h, hb⟩, if_pos h]
 ·rw [if_neg (fun x => h x.1), if_neg h]
theorem each_ok (r c : Nat) (f : Nat → Nat → Int) (i : Nat) (G : Nat → Int) (ev : Value) (m : Hp) (cf : FuncId) (fs : List Value) (h : Hp) (hO : OwnL cI 1 3 m ev (mat r c f)) (hi : i < r) (hr : r ≤ 400) (hc : c ≤ 800)
  (hcf : ∀ xs w, (callFunc cf xs).run Tryz.prog w = .ok (.enter cf xs) w)
  (hG : ∀ k, k < c → ∀ m', OwnL cI 1 3 m' ev (mat r c (turn f i G k)) → FnV Tryz.prog cf (fs ++ [Value.int .i64 k, Value.int .i64 (f i k)] ++ []).toArray h [m'] (.int .i64 (G k))) :
  FnT Tryz.prog 148 #[vsub 1 ev (i * c) ((i + 1) * c), .func (.func cf) fs.toArray #[]] h [m] (fun x h' ms' => h = h' ∧ ∃ m', ms' = [m'] ∧ OwnL cI 1 3 m' ev (mat r c fun a b => if a = i then G b else f a b)) := by
 have ec := vec_len c (f i)
 refine fn_enter func148 ntmps148 rfl rfl (fun w0 hw0 => ?_)
 simp only [argS]
 refine RsQ (Qm rfl (Qx (ox_lenR ((hO.rd (h := h) (ms := [m]) (List.Mem.head _)).row hi).rd rfl underlying24 rfl) rfl (Qm rfl (RnQ (ws_block ?_)))))
 refine ws_loop (fun q s h' ms' => ∃ (k : Nat) (m : Hp), q = c - k ∧ s = [(0, vsub 1 ev (i * c) ((i + 1) * c)), (1, .func (.func cf) fs.toArray #[]), (6, vsub 1 ev (i * c) ((i + 1) * c)), (7, .int .i64 ((vec c (f i)).length : Nat)), (8, .int .i64 k)] ∧ h = h' ∧ ms' = [m] ∧ k ≤ c ∧ OwnL cI 1 3 m ev (mat r c (turn f i G k)))
  (c - 0) _ ⟨0, m, rfl, rfl, rfl, rfl, by omega, by rw [mat_congr (fun a _ b _ => turn_zero f i G a b)]; exact hO⟩ Qs ?_
 rintro q s h' ms' ⟨k, m, rfl, rfl, rfl, rfl, hk, hO⟩
 refine RsQ (Qx (ox_lss rfl rfl rfl) rfl (RnQ (ws_seq ?_)))
 refine ws_if rfl (fun hlt => ?_) (fun hlt => ?_)
 ·have hkc : k < c := by omega
  have ek := vec_len c (turn f i G k i)
  have hcell : Cell h [m] ((vbase (vsub 1 ev (i * c) ((i + 1) * c))).add (k * 1)) (.int .i64 (f i k)) := by
   have := ((hO.rd (h := h) (ms := [m]) (List.Mem.head _)).row hi).ev hkc
   rw [turn_at] at this
   exact this
  refine ws_skip (nx_then (ws_seq (ws_block (RsQ (Qm rfl (Qx (ox_indexR _ ((hO.rd (h := h) (ms := [m]) (List.Mem.head _)).row hi).rd rfl underlying24 el3 rfl rfl rfl (by omega)) rfl (Qx (ox_load rfl underlying3 rfl rfl (hcell)) rfl (Qm rfl (Qm rfl (RrQ (Qm rfl (Qm rfl (Qm rfl (Qm rfl (Qm rfl (Qx (ox_callv (cs := []) rfl rfl hcf rfl (hG k hkc m hO)) rfl (Qx (ox_indexR _ ((hO.rd (h := h) (ms := [m]) (List.Mem.head _)).row hi).rd rfl underlying24 el3 rfl rfl rfl (by omega)) rfl (wl_storeR 0 i k hO hi hkc rfl el3 rfl rfl rfl rfl rfl (fun m' hO' => wl_nil (nx_block (nx_then (ws_region (Qx (ox_add rfl rfl rfl (by omega)) rfl (Qm rfl (wl_nil ?_)))))))))))))))))))))))))
  refine nx_round (c - (k + 1)) _ (by omega) ⟨k + 1, m', rfl, rfl, rfl, rfl, by omega, by rw [mat_congr (fun a _ b _ => turn_step f i G k a b)] at hO'; exact hO'⟩ Qs
 ·refine ws_exit (nx_then_exit (nx_then_exit (nx_block_exit ?_)))
  obtain rfl : k = c := by omega
  exact nx_end0 rfl (⟨rfl, m, rfl, by rw [mat_congr (fun a _ b hb => turn_all f i G k a b hb)] at hO; exact hO⟩)
end Go.Proofs.YtdnelknieikbaaaGreat
namespace Go.Lin
variable {r c i j : Nat} {p : Int} {f : Nat → Nat → Int} {x : Nat → Int}
def RSp (p : Int) (r c : Nat) (f : Nat → Nat → Int) (x : Nat → Int) : Prop := ∃ u : Nat → Int, ∀ b, b < c → Cg p (x b) (sm r fun l => u l * f l b)
theorem RSp.row (hi : i < r) : RSp p r c f (f i) :=
  ⟨fun l => if l = i then 1 else 0, fun b _ => Cg.of_eq (by
    rw [sm_one r i _ hi fun l _ hne => by simp [hne]]
    simp)⟩
theorem RSp.cg {y : Nat → Int} (h : RSp p r c f x) (hc : ∀ b, b < c → Cg p (y b) (x b)) : RSp p r c f y := by
  obtain ⟨u, hu⟩ := h
  exact ⟨u, fun b hb => (hc b hb).trans (hu b hb)⟩
theorem RSp.mul (h : RSp p r c f x) (k : Int) : RSp p r c f fun b => k * x b := by
  obtain ⟨u, hu⟩ := h
  refine ⟨fun l => k * u l, fun b hb => (Cg.mul (Cg.refl p k) (hu b hb)).trans (Cg.of_eq ?_)⟩
  rw [← sm_mul]
  exact sm_congr fun l _ => by rw [Int.mul_assoc]
theorem RSp.add {y : Nat → Int} (h : RSp p r c f x) (h' : RSp p r c f y) : RSp p r c f fun b => x b + y b := by
  obtain ⟨u, hu⟩ := h
  obtain ⟨v, hv⟩ := h'
  refine ⟨fun l => u l + v l, fun b hb => (Cg.add (hu b hb) (hv b hb)).trans (Cg.of_eq ?_)⟩
  rw [← sm_add]
  exact sm_congr fun l _ => by rw [Int.add_mul]
structure Red (p : Int) (r c : Nat) (f F : Nat → Nat → Int) (pv : List Nat) (j : Nat) : Prop where
  bd : ∀ i, i < r → ∀ b, b < c → 0 ≤ F i b ∧ F i b < p
  sorted : pv.Pairwise (· < ·)
  lt : ∀ k (h : k < pv.length), pv[k] < j
  len : pv.length ≤ r
  col : ∀ i, i < r → ∀ k (h : k < pv.length), F i pv[k] = if i = k then 1 else 0
  low : ∀ i, i < r → pv.length ≤ i → ∀ b, b < j → F i b = 0
  left : ∀ i (h : i < pv.length), ∀ b, b < pv[i] → F i b = 0
  ker : ∀ x : Nat → Int, (∀ i, i < r → Cg p (ap F c x i) 0) ↔ (∀ i, i < r → Cg p (ap f c x i) 0)
  row : ∀ i, i < r → RSp p r c f (F i)
theorem Red.start (h : ∀ i, i < r → ∀ b, b < c → 0 ≤ f i b ∧ f i b < p) : Red p r c f f [] 0 :=
  ⟨h, List.Pairwise.nil, fun k h => by simp at h, by simp, fun i _ k h => by simp at h, fun i _ _ b hb => by omega, fun i h => by simp at h, fun x => Iff.rfl, fun i hi => RSp.row hi⟩
theorem Red.skip {F : Nat → Nat → Int} {pv : List Nat} (R : Red p r c f F pv j) (h : ∀ i, i < r → pv.length ≤ i → F i j = 0) : Red p r c f F pv (j + 1) :=
  ⟨R.bd, R.sorted, fun k hk => Nat.lt_succ_of_lt (R.lt k hk), R.len, R.col, fun i hi hl b hb => by
    rcases (by omega : b < j ∨ b = j) with h1 | rfl
    · exact R.low i hi hl b h1
    · exact h i hi hl, R.left, R.ker, R.row⟩
def swi (i j a : Nat) : Nat := if a = i then j else if a = j then i else a
theorem swi_lt {a : Nat} (hi : i < r) (hj : j < r) (ha : a < r) : swi i j a < r := by
  unfold swi; split
  · exact hj
  · split
    · exact hi
    · exact ha
theorem swi_swi (i j a : Nat) : swi i j (swi i j a) = a := by
  unfold swi
  by_cases h1 : a = i
  · by_cases h2 : j = i
    · simp [h1, h2]
    · simp [h1, h2]
  · by_cases h2 : a = j
    · simp [h2]
    · simp [h1, h2]
def rs2 (p : Int) (t i : Nat) (v : Int) (F : Nat → Nat → Int) (a b : Nat) : Int := if a = t then F (swi t i t) b * v % p else F (swi t i a) b
def rs3 (p : Int) (t i j : Nat) (v : Int) (F : Nat → Nat → Int) (a b : Nat) : Int := if a = t then rs2 p t i v F t b else (rs2 p t i v F a b + rs2 p t i v F t b * (p - rs2 p t i v F a j)) % p
theorem Red.step {F : Nat → Nat → Int} {pv : List Nat} {v : Int} (hp : 2 ≤ p) (R : Red p r c f F pv j) (hi : i < r) (hl : pv.length ≤ i) (hj : j < c) (hv : F i j * v % p = 1) :
    Red p r c f (rs3 p pv.length i j v F) (pv ++ [j]) (j + 1) := by
  generalize ht : pv.length = t at *
  have htr : t < r := by omega
  have hst : swi t i t = i := by simp [swi]
  have hle : ∀ a, t ≤ a → t ≤ swi t i a := fun a ha => by
    unfold swi
    split
    · omega
    · split <;> omega
  have hsm : ∀ a, a < t → swi t i a = a := fun a ha => by unfold swi; rw [if_neg (by omega), if_neg (by omega)]
  -- row t, in the second form
  have h2bd : ∀ a, a < r → ∀ b, b < c → 0 ≤ rs2 p t i v F a b ∧ rs2 p t i v F a b < p := fun a ha b hb => by
    unfold rs2; split
    · exact ⟨Int.emod_nonneg _ (by omega), Int.emod_lt_of_pos _ (by omega)⟩
    · exact R.bd _ (swi_lt htr hi ha) b hb
  have h2t : ∀ b, rs2 p t i v F t b = F i b * v % p := fun b => by unfold rs2; rw [if_pos rfl, hst]
  have h2z : ∀ b, F i b = 0 → rs2 p t i v F t b = 0 := fun b hb => by rw [h2t, hb, Int.zero_mul, Int.zero_emod]
  have h2j : rs2 p t i v F t j = 1 := by rw [h2t, hv]
  have h2n : ∀ a, a ≠ t → ∀ b, rs2 p t i v F a b = F (swi t i a) b := fun a ha b => by unfold rs2; rw [if_neg ha]
  have h3t : ∀ b, rs3 p t i j v F t b = rs2 p t i v F t b := fun b => by unfold rs3; rw [if_pos rfl]
  have h3n : ∀ a, a ≠ t → ∀ b, rs3 p t i j v F a b = (rs2 p t i v F a b + rs2 p t i v F t b * (p - rs2 p t i v F a j)) % p := fun a ha b => by unfold rs3; rw [if_neg ha]
  have h3same : ∀ a, a < r → a ≠ t → ∀ b, b < c → F i b = 0 → rs3 p t i j v F a b = F (swi t i a) b := fun a ha hat b hb hz => by
    rw [h3n a hat, h2z b hz, Int.zero_mul, Int.add_zero, h2n a hat]
    have := R.bd _ (swi_lt htr hi ha) b hb
    exact Int.emod_eq_of_lt this.1 this.2
  have hlowi : ∀ b, b < j → F i b = 0 := fun b hb => R.low i hi (by omega) b hb
  have hpvz : ∀ k (h : k < pv.length), F i pv[k] = 0 := fun k h => by rw [R.col i hi k h, if_neg (by omega)]
  refine ⟨fun a ha b hb => ?_, ?_, fun k hk => ?_, ?_, fun a ha k hk => ?_, fun a ha hla b hb => ?_, fun a ha b hb => ?_, fun x => ?_, fun a ha => ?_⟩
  · by_cases hat : a = t
    · subst hat; rw [h3t]; exact h2bd _ ha b hb
    · rw [h3n a hat]; exact ⟨Int.emod_nonneg _ (by omega), Int.emod_lt_of_pos _ (by omega)⟩
  · rw [List.pairwise_append]
    refine ⟨R.sorted, List.pairwise_singleton _ _, fun a ha b hb => ?_⟩
    obtain ⟨k, hk, rfl⟩ := List.mem_iff_getElem.1 ha
    rw [List.mem_singleton.1 hb]
    exact R.lt k hk
  · rw [List.getElem_append]
    split
    · exact Nat.lt_succ_of_lt (R.lt k _)
    · simp
  · rw [List.length_append, List.length_singleton]; omega
  · rw [List.getElem_append]
    split
    · rename_i hk'
      have hkj := R.lt k hk'
      by_cases hat : a = t
      · subst hat; rw [h3t, h2z _ (hpvz k hk'), if_neg (by omega)]
      · rw [h3same a ha hat _ (by omega) (hpvz k hk'), R.col _ (swi_lt htr hi ha) k hk']
        by_cases h1 : a < t
        · rw [hsm a h1]
        · rw [if_neg (by have := hle a (by omega); omega), if_neg (by omega)]
    · rename_i hk'
      rw [List.length_append, List.length_singleton] at hk
      have hkt : k = t := by omega
      simp only [List.getElem_singleton]
      by_cases hat : a = t
      · subst hat; rw [h3t, h2j, if_pos (by omega)]
      · rw [h3n a hat, h2j, Int.one_mul, if_neg (by omega), show rs2 p t i v F a j + (p - rs2 p t i v F a j) = p by omega, Int.emod_self]
  · rw [List.length_append, List.length_singleton] at hla
    have hat : a ≠ t := by omega
    by_cases hbj : b < j
    · by_cases hbc : b < c
      · rw [h3same a ha hat b hbc (hlowi b hbj)]
        exact R.low _ (swi_lt htr hi ha) (by have := hle a (by omega); omega) b hbj
      · omega
    · have : b = j := by omega
      subst this
      rw [h3n a hat, h2j, Int.one_mul, show rs2 p t i v F a b + (p - rs2 p t i v F a b) = p by omega, Int.emod_self]
  · rw [List.length_append, List.length_singleton] at ha
    rw [List.getElem_append] at hb
    split at hb
    · rename_i ha'
      have hlt := R.lt a ha'
      rw [h3same a (by omega) (by omega) b (by omega) (hlowi b (by omega)), hsm a (by omega)]
      exact R.left a ha' b hb
    · simp only [List.getElem_singleton] at hb
      have hat : a = t := by omega
      subst hat
      rw [h3t, h2z b (hlowi b hb)]
  · rw [← R.ker x]
    -- the sums
    have s2n : ∀ a, a ≠ t → ap (rs2 p t i v F) c x a = ap F c x (swi t i a) := fun a ha => sm_congr fun b hb => by rw [h2n a ha]
    have s2t : Cg p (ap (rs2 p t i v F) c x t) (v * ap F c x i) := by
      refine Cg.trans (Cg.sm fun b hb => (show Cg p (rs2 p t i v F t b * x b) (v * (F i b * x b)) from ?_)) (Cg.of_eq (sm_mul c v _))
      rw [h2t]
      refine Cg.trans (Cg.mul (Cg.mod _ _) (Cg.refl _ _)) (Cg.of_eq ?_)
      rw [Int.mul_comm (F i b) v, Int.mul_assoc]
    have s3t : ap (rs3 p t i j v F) c x t = ap (rs2 p t i v F) c x t := sm_congr fun b hb => by rw [h3t]
    have s3n : ∀ a, a ≠ t → Cg p (ap (rs3 p t i j v F) c x a) (ap F c x (swi t i a) + (p - rs2 p t i v F a j) * ap (rs2 p t i v F) c x t) := fun a ha => by
      refine Cg.trans (Cg.sm fun b hb => (show Cg p (rs3 p t i j v F a b * x b) (F (swi t i a) b * x b + (p - rs2 p t i v F a j) * (rs2 p t i v F t b * x b)) from ?_)) (Cg.of_eq ?_)
      · rw [h3n a ha, h2n a ha b]
        refine Cg.trans (Cg.mul (Cg.mod _ _) (Cg.refl _ _)) (Cg.of_eq ?_)
        rw [Int.add_mul, Int.mul_comm (rs2 p t i v F t b), Int.mul_assoc]
      · rw [sm_add, sm_mul]; rfl
    constructor
    · intro H a ha
      have ht0 : Cg p (ap (rs2 p t i v F) c x t) 0 := by rw [← s3t]; exact H t htr
      have hn0 : ∀ a, a < r → a ≠ t → Cg p (ap F c x (swi t i a)) 0 := fun a ha hat => by
        have h1 := (s3n a hat).symm.trans (H a ha)
        have h2 := Cg.mul (Cg.refl p (p - rs2 p t i v F a j)) ht0
        have h3 := Cg.sub h1 h2
        rw [Int.mul_zero, Int.sub_zero] at h3
        exact Cg.trans (Cg.of_eq (by omega)) h3
      have hi0 : Cg p (ap F c x i) 0 := by
        have h1 := s2t.symm.trans ht0
        have h2 := Cg.mul (Cg.refl p (F i j)) h1
        rw [Int.mul_zero, ← Int.mul_assoc] at h2
        have h3 : Cg p (F i j * v) 1 := Cg.iff_mod.2 (by rw [hv, Int.emod_eq_of_lt (by omega) (by omega)])
        have h4 := Cg.mul h3 (Cg.refl p (ap F c x i))
        rw [Int.one_mul] at h4
        exact h4.symm.trans h2
      by_cases hat : swi t i a = t
      · have : a = i := by
          have h1 := swi_swi t i a
          rw [hat, hst] at h1; exact h1.symm
        rw [this]; exact hi0
      · have h1 := hn0 (swi t i a) (swi_lt htr hi ha) hat
        rwa [swi_swi] at h1
    · intro H a ha
      have ht0 : Cg p (ap (rs2 p t i v F) c x t) 0 := by
        have := Cg.mul (Cg.refl p v) (H i hi)
        rw [Int.mul_zero] at this
        exact s2t.trans this
      by_cases hat : a = t
      · subst hat; rw [s3t]; exact ht0
      · refine (s3n a hat).trans ?_
        have h2 := Cg.mul (Cg.refl p (p - rs2 p t i v F a j)) ht0
        have h3 := Cg.add (H _ (swi_lt htr hi ha)) h2
        rwa [Int.mul_zero, Int.add_zero] at h3
  · have ht : RSp p r c f (rs2 p t i v F t) := ((R.row i hi).mul v).cg fun b _ => by
      rw [h2t, Int.mul_comm v]; exact Cg.mod _ _
    by_cases hat : a = t
    · subst hat
      exact ht.cg fun b _ => Cg.of_eq (h3t b)
    · refine ((R.row _ (swi_lt htr hi ha)).add (ht.mul (p - rs2 p t i v F a j))).cg fun b _ => ?_
      rw [h3n a hat, h2n a hat b, Int.mul_comm (rs2 p t i v F t b)]
      exact Cg.mod _ _
end Go.Lin
namespace Go.Proofs.YtdnelknieikbaaaGreat
open Tryz
open Go.Eng Go.RowKit Go.Lin
def swp (f : Nat → Nat → Int) (i j k a b : Nat) : Int := if b < k then f (swi i j a) b else f a b
theorem swp_step (f : Nat → Nat → Int) (i j k a b : Nat) : upd2 (upd2 (swp f i j k) i k (f j k)) j k (f i k) a b = swp f i j (k + 1) a b := by
 unfold upd2 swp swi
 by_cases h1 : a = j ∧ b = k
 ·obtain ⟨rfl, rfl⟩ := h1
  rw [if_pos ⟨rfl, rfl⟩, if_pos (by omega)]
  by_cases h2 : a = i
  ·subst h2; rw [if_pos rfl]
  ·rw [if_neg h2, if_pos rfl]
 ·rw [if_neg h1]
  by_cases h2 : a = i ∧ b = k
  ·obtain ⟨rfl, rfl⟩ := h2
   rw [if_pos ⟨rfl, rfl⟩, if_pos (by omega), if_pos rfl]
  ·rw [if_neg h2]
   by_cases h3 : b < k
   ·simp only [h3, show b < k + 1 by omega, if_true]
   ·by_cases h4 : b < k + 1
    ·have hbk : b = k := by omega
     have hai : ¬ a = i := fun e => h2 ⟨e, hbk⟩
     have haj : ¬ a = j := fun e => h1 ⟨e, hbk⟩
     simp only [h3, h4, hai, haj, if_true, if_false]
    ·simp only [h3, h4, if_false]
theorem swp_at (f : Nat → Nat → Int) (i j k a : Nat) : swp f i j k a k = f a k := if_neg (by omega)
theorem swp_zero (f : Nat → Nat → Int) (i j a b : Nat) : swp f i j 0 a b = f a b := if_neg (by omega)
theorem swp_all (f : Nat → Nat → Int) (i j c a b : Nat) (hb : b < c) : swp f i j c a b = f (swi i j a) b := if_pos hb
theorem swap_ok (g : Nat) (p : Int) (r c : Nat) (f : Nat → Nat → Int) (ev : Value) (ov : List Value) (m : Hp) (i j : Nat) (h : Hp) (hO : OwnL cI 1 3 m ev (mat r c f)) (hi : i < r) (hj : j < r) (hr : r ≤ 400) (hc : c ≤ 800) :
  FnT Tryz.prog 147 #[.pointer (some ⟨g, 0, none⟩), .int .i64 i, .int .i64 j] h [BR g p r c ev ov, m] (fun x h' ms' => h = h' ∧ ∃ m', ms' = [BR g p r c ev ov, m'] ∧ OwnL cI 1 3 m' ev (mat r c fun a b => f (swi i j a) b)) := by
 have hRi := (hO.rd (h := h) (ms := [m]) (List.Mem.head _)).row hi
 have ec := vec_len c (f i)
 refine fn_enter func147 ntmps147 rfl rfl (fun w0 hw0 => ?_)
 simp only [argS]
 refine RsQ (Qm rfl (Qm rfl (Qx (ox_call rfl call146 rfl (fnv_whole fun h' hl hm => row_v g p r c f ev ov _ h' (Seg.ofLe (hm _ (List.Mem.head _))) (hO.rdh (hm _ (List.Mem.tail _ (List.Mem.head _)))) (by assumption) hr hc)) rfl (Qm rfl (Qm rfl (Qx (ox_call rfl call146 rfl (fnv_whole fun h' hl hm => row_v g p r c f ev ov _ h' (Seg.ofLe (hm _ (List.Mem.head _))) (hO.rdh (hm _ (List.Mem.tail _ (List.Mem.head _)))) (by assumption) hr hc)) rfl (Qm rfl (Qm rfl (RtQ (Qm rfl (Qx (ox_lenS hRi.rd rfl underlying24 rfl) rfl (Qm rfl (RnQ (ws_block ?_))))))))))))))
 refine ws_loop (fun q s h' ms' => ∃ (k : Nat) (m : Hp), q = c - k ∧ s = [(6, vsub 1 ev (i * c) ((i + 1) * c)), (7, vsub 1 ev (j * c) ((j + 1) * c)), (16, .int .i64 ((vec c (f i)).length : Nat)), (17, .int .i64 k)] ∧ h = h' ∧ ms' = [BR g p r c ev ov, m] ∧ k ≤ c ∧ OwnL cI 1 3 m ev (mat r c (swp f i j k)))
  (c - 0) _ ⟨0, m, rfl, rfl, rfl, rfl, by omega, by rw [mat_congr (fun a _ b _ => swp_zero f i j a b)]; exact hO⟩ Qs ?_
 rintro q s h' ms' ⟨k, m, rfl, rfl, rfl, rfl, hk, hO⟩
 have eci := vec_len c (swp f i j k i)
 have ecj := vec_len c (swp f i j k j)
 refine RsQ (Qx (ox_lss rfl rfl rfl) rfl (RnQ (ws_seq ?_)))
 refine ws_if rfl (fun hlt => ?_) (fun hlt => ?_)
 ·have hkc : k < c := by omega
  have hR2 := fun i hi => (hO.rd (h := h) (ms := [BR g p r c ev ov, m]) (List.Mem.tail _ (List.Mem.head _))).row (i := i) hi
  have hcell : ∀ i (hi : i < r), Cell h [BR g p r c ev ov, m] ((vbase (vsub 1 ev (i * c) ((i + 1) * c))).add (k * 1)) (.int .i64 (f i k)) := fun i hi => by
   have := (hR2 i hi).ev hkc
   rw [swp_at] at this
   exact this
  refine ws_skip (nx_then ?_)
  refine ws_cut (fun s h' ms' => ∃ (m : Hp), s = [(6, vsub 1 ev (i * c) ((i + 1) * c)), (7, vsub 1 ev (j * c) ((j + 1) * c)), (16, .int .i64 ((vec c (f i)).length : Nat)), (17, .int .i64 k)] ∧ h = h' ∧ ms' = [BR g p r c ev ov, m] ∧ OwnL cI 1 3 m ev (mat r c (swp f i j (k + 1)))) ?_ (fun s h ms hI => ?_)
  ·refine ws_block (RsQ (Qm rfl (Qm rfl (RnQ (ws_stab (n := 16) (bs := [true, true, true, true, true, true, true, false, true, true, true, false, true, false, true, false]) [true, true, true, true, true, true, true, false, true, true, true, false, true, false, true] fol (by kernel_rfl) (by kernel_rfl) rfl rfl (Qp rfl (ox_move rfl rfl) (Qp rfl (ox_move rfl rfl) (Qp rfl (ox_move rfl rfl) (Qp rfl (ox_move rfl rfl) (Qp rfl (ox_move rfl rfl) (Qp rfl (ox_move rfl rfl) (Qp rfl (ox_indexS _ (hR2 j hj).rd rfl underlying24 el3 rfl rfl rfl (by omega)) (Qp rfl (ox_move rfl rfl) (Qp rfl (ox_move rfl rfl) (Qp rfl (ox_indexS _ (hR2 i hi).rd rfl underlying24 el3 rfl rfl rfl (by omega)) (Qp rfl (ox_indexS _ (hR2 i hi).rd rfl underlying24 el3 rfl rfl rfl (by omega)) (Qp rfl (ox_indexS _ (hR2 j hj).rd rfl underlying24 el3 rfl rfl rfl (by omega)) ?_)))))))))))))))))
   unfold PZs
   simp only [List.cons_append, List.nil_append]
   refine wb_step [7, 11] (by kernel_rfl) rfl ?_
   refine wbl_cons rfl ?_ ?_
   ·refine Qx (ox_load rfl underlying3 rfl rfl (hcell j hj)) rfl (Qw (Qo 11 rfl (Qx (ox_load rfl underlying3 rfl rfl (hcell i hi)) rfl (Qw (Qo 13 rfl (wl_storeR 1 i k hO hi hkc rfl el3 rfl rfl rfl rfl rfl (fun m1 hO1 => Qw (Qo 15 rfl (wl_storeR 1 j k hO1 hj hkc rfl el3 rfl rfl rfl rfl rfl (fun m2 hO2 => Qw (Qe (nx_block ?_))))))))))))
    refine nx_meet _ ⟨m2, rfl, rfl, rfl, by rw [mat_congr (fun a _ b _ => swp_step f i j k a b)] at hO2; exact hO2⟩ Qs
   refine wbl_cons rfl ?_ ?_
   ·refine Qx (ox_load rfl underlying3 rfl rfl (hcell i hi)) rfl (Qw (Qo 7 rfl (Qx (ox_load rfl underlying3 rfl rfl (hcell j hj)) rfl (Qw (Qo 13 rfl (wl_storeR 1 i k hO hi hkc rfl el3 rfl rfl rfl rfl rfl (fun m1 hO1 => Qw (Qo 15 rfl (wl_storeR 1 j k hO1 hj hkc rfl el3 rfl rfl rfl rfl rfl (fun m2 hO2 => Qw (Qe (nx_block ?_))))))))))))
    refine nx_meet _ ⟨m2, rfl, rfl, rfl, by rw [mat_congr (fun a _ b _ => swp_step f i j k a b)] at hO2; exact hO2⟩ Qs
   exact wbl_nil
  obtain ⟨m, rfl, rfl, rfl, hO⟩ := hI
  ·refine ws_region (Qx (ox_add rfl rfl rfl (by omega)) rfl (Qm rfl (wl_nil ?_)))
   refine nx_round (c - (k + 1)) _ (by omega) ⟨k + 1, m, rfl, rfl, rfl, rfl, by omega, hO⟩ Qs
 ·refine ws_exit (nx_then_exit (nx_then_exit (nx_block_exit ?_)))
  obtain rfl : k = c := by omega
  exact nx_end0 rfl (⟨rfl, m, rfl, by rw [mat_congr (fun a _ b hb => swp_all f i j k a b hb)] at hO; exact hO⟩)
end Go.Proofs.YtdnelknieikbaaaGreat
namespace Go.Proofs.YtdnelknieikbaaaGreat
open Tryz
open Go.Eng Go.RowKit Go.Lin
variable {p : Int} {n : Nat} {ov : List Int}
theorem Cg.pow {a b : Int} (h : Cg p a b) : ∀ n : Nat, Cg p (a ^ n) (b ^ n)
 | 0 => Cg.of_eq (by rw [Int.pow_zero, Int.pow_zero])
 | n + 1 => by rw [Int.pow_succ, Int.pow_succ]; exact Cg.mul (Cg.pow h n) h
theorem inv_end (hp : IsP p) (h1 : 1 ≤ n) (hn : (n : Int) < p) {out : Int} (ho : Cg p out ((n : Int) ^ (p.toNat - 2))) : (n : Int) * out % p = 1 := by
 have h2 := hp.1
 have hd : ¬ p.toNat ∣ n := fun hd => by have := Nat.le_of_dvd (by omega) hd; omega
 have hf := fermat hp.prm hd
 have h3 : Cg p ((n : Int) * out) ((n : Int) ^ (p.toNat - 1)) := by
  have := Cg.mul (Cg.refl p (n : Int)) ho
  rw [show p.toNat - 1 = (p.toNat - 2) + 1 by omega, Int.pow_succ, Int.mul_comm _ (n : Int)]
  exact this
 have h4 : (n : Int) ^ (p.toNat - 1) % p = 1 := by
  have h5 : ((n ^ (p.toNat - 1) % p.toNat : Nat) : Int) = 1 := by rw [hf]; rfl
  rw [Int.natCast_emod, Int.natCast_pow, Int.toNat_of_nonneg (by omega)] at h5
  exact h5
 rw [Cg.iff_mod.1 h3, h4]
def Ovk (p : Int) (ov : List Int) : Prop := ov.length = 998 ∧ ∀ n (h : n < ov.length), ov[n] = 0 ∨ (0 < ov[n] ∧ ov[n] < p ∧ (n : Int) * ov[n] % p = 1)
theorem ov_get {r c : Nat} {ev : Value} (hn : n < ov.length) : (cR p r c ev (ov.flatMap cI))[4 + n * 1]? = some (.int .i64 ov[n]) := by
 have := flatMap_get cI_len ov n hn 0 (.int .i64 ov[n]) rfl
 rw [Nat.add_zero] at this
 rw [show 4 + n * 1 = n * 1 + 4 by omega]
 exact this
theorem ov_set {r c : Nat} {ev : Value} (x : Int) : (cR p r c ev (ov.flatMap cI)).set (4 + n * 1) (.int .i64 x) = cR p r c ev ((ov.set n x).flatMap cI) := by
 rw [show 4 + n * 1 = n + 1 + 1 + 1 + 1 by omega, ← cI_set]
 rfl
theorem Ovk.set (H : Ovk p ov) {x : Int} (h0 : 0 < x) (h1 : x < p) (h2 : (n : Int) * x % p = 1) : Ovk p (ov.set n x) := by
 refine ⟨by simp [H.1], fun k hk => ?_⟩
 rw [List.getElem_set]
 by_cases e : n = k
 ·subst e; rw [if_pos rfl]; exact .inr ⟨h0, h1, h2⟩
 ·rw [if_neg e]; exact H.2 k (by simpa using hk)
theorem pow_half (a : Int) (e : Nat) : a ^ e = (a * a) ^ (e / 2) * a ^ (e % 2) := by
 conv => lhs; rw [← Nat.div_add_mod e 2, Int.pow_add, Int.pow_mul]
 rw [show a ^ 2 = a * a by rw [Int.pow_succ, Int.pow_succ, Int.pow_zero, Int.one_mul]]
theorem invert_ok (g : Nat) (p : Int) (r c : Nat) (ev : Value) (ov : List Int) (n : Nat) (h : Hp) (hp : IsP p) (hov : Ovk p ov) (h1n : 1 ≤ n) (hn : (n : Int) < p) :
  FnT Tryz.prog 149 #[.pointer (some ⟨g, 0, none⟩), .int .i64 n] h [BR g p r c ev (ov.flatMap cI)] (fun x h' ms' => h = h' ∧ ∃ (v : Int) (ov' : List Int), x = .int .i64 v ∧ ms' = [BR g p r c ev (ov'.flatMap cI)] ∧ Ovk p ov' ∧ 0 < v ∧ v < p ∧ (n : Int) * v % p = 1) := by
 have hb : 2 ≤ p ∧ p ≤ 997 := ⟨hp.1, hp.2.1⟩
 have hl := hov.1
 have hnl : n < ov.length := by omega
 have hc := hov.2 n hnl
 have hcell : Cell h [BR g p r c ev (ov.flatMap cI)] (((⟨g, 0, none⟩ : Addr).add 4).add (n * 1)) (.int .i64 ov[n]) := by
  rw [addr_add_add]
  exact Cell.blk 0 rfl (ov_get hnl)
 have hP : ∀ ov' : List Value, Cell h [BR g p r c ev ov'] (((⟨g, 0, none⟩ : Addr).add 0).add 0) (.int .i64 p) := fun ov' => by
  rw [addr_add_add]
  exact Cell.blk 0 rfl rfl
 refine fn_enter func149 ntmps149 rfl rfl (fun w0 hw0 => ?_)
 simp only [argS]
 refine RsQ (Qm rfl (RnQ (ws_seq (RsQ (Qm rfl (Qm rfl (Qx (ox_nilCheck rfl rfl) rfl (Qx (ox_fieldF fd184_1 rfl rfl) rfl (Qx (ox_indexA (n) rfl underlying182 el3 rfl rfl (by omega) (by omega)) rfl (Qx (ox_load rfl underlying3 rfl rfl (hcell)) rfl (Qx (ox_gtr rfl rfl rfl) rfl (RnQ ?_))))))))))))
 refine ws_if rfl (fun hpos => ?_) (fun hpos => ?_)
 ·have hc : 0 < ov[n] ∧ ov[n] < p ∧ (n : Int) * ov[n] % p = 1 := by
   rcases hc with h0 | h0
   ·omega
   ·exact h0
  refine RsQ (Qm rfl (Qm rfl (Qx (ox_nilCheck rfl rfl) rfl (Qx (ox_fieldF fd184_1 rfl rfl) rfl (Qx (ox_indexA (n) rfl underlying182 el3 rfl rfl (by omega) (by omega)) rfl (Qx (ox_load rfl underlying3 rfl rfl (hcell)) rfl (Qm rfl (RnQ (ws_ret (nx_then_ret ?_))))))))))
  exact nx_ret1 rfl rfl (⟨rfl, _, ov, rfl, rfl, hov, hc.1, hc.2.1, hc.2.2⟩)
 ·refine ws_skip (nx_then (RsQ (Qm rfl (Qm rfl (Qm rfl (RnQ (ws_seq (RsQ (Qm rfl (Qx (ox_nilCheck rfl rfl) rfl (Qx (ox_fieldF fd184_0 rfl rfl) rfl (Qx (ox_fieldF fd42_0 rfl rfl) rfl (Qx (ox_load rfl underlying3 rfl rfl (hP _)) rfl (Qx (ox_sub rfl rfl rfl (by omega)) rfl (Qm rfl (RnQ (ws_block ?_)))))))))))))))))
  refine ws_loop (fun q s h' ms' => ∃ (e : Nat) (out pw y : Int), q = e ∧ s = [(0, .pointer (some ⟨g, 0, none⟩)), (1, .int .i64 n), (5, .int .i64 out), (6, .int .i64 pw), (7, .int .i64 y)] ∧ h = h' ∧ ms' = [BR g p r c ev (ov.flatMap cI)] ∧ y = e ∧ e ≤ 1000 ∧ 0 ≤ out ∧ out < p ∧ 0 ≤ pw ∧ pw < p ∧ Cg p (out * pw ^ e) ((n : Int) ^ (p.toNat - 2)))
   (p.toNat - 2) _ ⟨p.toNat - 2, 1, (n : Int), p - 2, rfl, rfl, rfl, rfl, by omega, by omega, by omega, by omega, by omega, by omega, by rw [Int.one_mul]; exact Cg.refl _ _⟩ Qs ?_
  rintro e s h' ms' ⟨e', out, pw, y, rfl, rfl, rfl, rfl, rfl, he, o1, o2, q1, q2, hcg⟩
  have b1 := mul_bd ⟨o1, o2⟩ ⟨q1, q2⟩ hb.2
  have b2 := mul_bd ⟨q1, q2⟩ ⟨q1, q2⟩ hb.2
  have m1 := Int.emod_nonneg (out * pw) (show p ≠ 0 by omega)
  have m2 := Int.emod_lt_of_pos (out * pw) (show 0 < p by omega)
  have m3 := Int.emod_nonneg (pw * pw) (show p ≠ 0 by omega)
  have m4 := Int.emod_lt_of_pos (pw * pw) (show 0 < p by omega)
  have hh : Cg p ((pw * pw % p) ^ (e / 2)) ((pw * pw) ^ (e / 2)) := Cg.pow (Cg.mod _ _) _
  refine ws_seq (RsQ (Qm rfl (Qx (ox_gtr rfl rfl rfl) rfl (RnQ ?_))))
  refine ws_if rfl (fun hlt => ?_) (fun hlt => ?_)
  ·refine ws_skip (nx_then (ws_seq (ws_block (ws_seq (RsQ (Qm rfl (Qx (ox_odd rfl rfl rfl (by omega)) rfl (Qx (ox_eqi rfl rfl rfl) rfl (RnQ ?_)))))))))
   refine ws_if rfl (fun hodd => ?_) (fun hodd => ?_)
   ·refine ws_region (Qm rfl (Qm rfl (Qx (ox_mul rfl rfl rfl (by omega)) rfl (Qm rfl (Qx (ox_nilCheck rfl rfl) rfl (Qx (ox_fieldF fd184_0 rfl rfl) rfl (Qx (ox_fieldF fd42_0 rfl rfl) rfl (Qx (ox_load rfl underlying3 rfl rfl (hP _)) rfl (Qx (ox_remP rfl rfl rfl (by omega) (by omega)) rfl (Qm rfl (RrQ (Qm rfl (Qm rfl (Qx (ox_mul rfl rfl rfl (by omega)) rfl (Qm rfl (Qx (ox_nilCheck rfl rfl) rfl (Qx (ox_fieldF fd184_0 rfl rfl) rfl (Qx (ox_fieldF fd42_0 rfl rfl) rfl (Qx (ox_load rfl underlying3 rfl rfl (hP _)) rfl (Qx (ox_remP rfl rfl rfl (by omega) (by omega)) rfl (Qm rfl (wl_nil (nx_block (nx_then (ws_region (Qm rfl (Qx (ox_shrI (n := 1) rfl rfl rfl (by omega)) rfl (Qm rfl (wl_nil ?_)))))))))))))))))))))))))))))
    refine nx_round (e / 2) _ (by omega) ⟨e / 2, out * pw % p, pw * pw % p, ((e / 2 : Nat) : Int), rfl, rfl, rfl, rfl, rfl, by omega, m1, m2, m3, m4, ?_⟩ Qs
    refine Cg.trans (Cg.mul (Cg.mod _ _) hh) (Cg.trans (Cg.of_eq ?_) hcg)
    rw [pow_half pw e, show e % 2 = 1 by omega, Int.pow_succ, Int.pow_zero, Int.one_mul, Int.mul_assoc, Int.mul_comm pw]
   ·refine ws_skip (nx_then (ws_region (Qm rfl (Qm rfl (Qx (ox_mul rfl rfl rfl (by omega)) rfl (Qm rfl (Qx (ox_nilCheck rfl rfl) rfl (Qx (ox_fieldF fd184_0 rfl rfl) rfl (Qx (ox_fieldF fd42_0 rfl rfl) rfl (Qx (ox_load rfl underlying3 rfl rfl (hP _)) rfl (Qx (ox_remP rfl rfl rfl (by omega) (by omega)) rfl (Qm rfl (wl_nil (nx_block (nx_then (ws_region (Qm rfl (Qx (ox_shrI (n := 1) rfl rfl rfl (by omega)) rfl (Qm rfl (wl_nil ?_))))))))))))))))))))
    refine nx_round (e / 2) _ (by omega) ⟨e / 2, out, pw * pw % p, ((e / 2 : Nat) : Int), rfl, rfl, rfl, rfl, rfl, by omega, o1, o2, m3, m4, ?_⟩ Qs
    refine Cg.trans (Cg.mul (Cg.refl _ _) hh) (Cg.trans (Cg.of_eq ?_) hcg)
    rw [pow_half pw e, show e % 2 = 0 by omega, Int.pow_zero, Int.mul_one]
  ·obtain rfl : e = 0 := by omega
   rw [Int.pow_zero, Int.mul_one] at hcg
   have hinv := inv_end hp h1n hn hcg
   have hout : 0 < out := by
    rcases (by omega : out = 0 ∨ 0 < out) with h0 | h0
    ·subst h0; simp at hinv
    ·exact h0
   refine ws_exit (nx_then_exit (nx_then_exit (nx_block_exit (nx_then (RsQ (Qm rfl (Qm rfl (Qm rfl (Qx (ox_nilCheck rfl rfl) rfl (Qx (ox_fieldF fd184_1 rfl rfl) rfl (Qx (ox_indexA (n) rfl underlying182 el3 rfl rfl (by omega) (by omega)) rfl ?_)))))))))))
   refine wl_storeAt 0 (4 + n * 1) rfl el3 rfl rfl rfl rfl (addr_add_add _ _ _) (by show _ < (_ :: _ :: _ :: _ :: _ : List Value).length; simp only [List.length_cons, flatMap_len cI_len, hl]; omega) rfl rfl ?_
   rw [ov_set]
   refine RtQ (Qm rfl (Qm rfl (RnQ (ws_ret ?_))))
   exact nx_ret1 rfl rfl (⟨rfl, out, ov.set n out, rfl, rfl, hov.set hout o2 hinv, hout, o2, hinv⟩)
theorem invert_i (g : Nat) (p : Int) (r c : Nat) (ev : Value) (ov : List Int) (n : Int) (h : Hp) (hp : IsP p) (hov : Ovk p ov) (h1n : 1 ≤ n) (hn : n < p) :
  FnT Tryz.prog 149 #[.pointer (some ⟨g, 0, none⟩), .int .i64 n] h [BR g p r c ev (ov.flatMap cI)] (fun x h' ms' => h = h' ∧ ∃ (v : Int) (ov' : List Int), x = .int .i64 v ∧ ms' = [BR g p r c ev (ov'.flatMap cI)] ∧ Ovk p ov' ∧ 0 < v ∧ v < p ∧ n * v % p = 1) := by
 obtain ⟨k, rfl⟩ := Int.eq_ofNat_of_zero_le (show 0 ≤ n by omega)
 exact invert_ok g p r c ev ov k h hp hov (by omega) hn
end Go.Proofs.YtdnelknieikbaaaGreat
namespace Go.Proofs.YtdnelknieikbaaaGreat
open Tryz
open Go.Eng Go.RowKit Go.Lin
theorem scale_v (t p k n : Int) (h : Hp) (hp : IsP p) (hn : 0 ≤ n ∧ n < p) (ht : 0 ≤ t ∧ t < p) (ms : List Hp) :
  FnV Tryz.prog 150 #[.agg #[.slice none 0 0, .int .i64 t, .int .i64 p], .int .i64 k, .int .i64 n] h ms (.int .i64 (n * t % p)) := by
 refine fnv ?_ ms
 have hb : 2 ≤ p ∧ p ≤ 997 := ⟨hp.1, hp.2.1⟩
 have b1 := mul_bd hn ht hb.2
 refine fn_enter func150 ntmps150 rfl rfl (fun w0 hw0 => ?_)
 simp only [argS]
 refine RsQ ?_
 refine wl_box [_, _, _] rfl rfl (by rfl) rfl rfl rfl (fun g3 => ?_)
 refine Qm rfl (RtQ (Qm rfl (Qx (ox_fieldF fd190_1 rfl rfl) rfl (Qx (ox_load rfl underlying3 rfl rfl (Cell.blk 0 rfl rfl)) rfl (Qx (ox_mul rfl rfl rfl (by omega)) rfl (Qx (ox_fieldF fd190_2 rfl rfl) rfl (Qx (ox_load rfl underlying3 rfl rfl (Cell.blk 0 rfl rfl)) rfl (Qx (ox_remP rfl rfl rfl (by omega) (by omega)) rfl (Qm rfl (RnQ (ws_ret ?_)))))))))))
 exact nx_ret1 rfl rfl (rfl)
theorem addc_v (r c : Nat) (F : Nat → Nat → Int) (ev : Value) (at_ k : Nat) (t p n : Int) (h : Hp) (hR : RdL cI 1 h [] ev (mat r c F)) (ha : at_ < r) (hk : k < c) (hp : IsP p) (hn : 0 ≤ n ∧ n < p) (hF : 0 ≤ F at_ k ∧ F at_ k < p) (ht : 0 ≤ t ∧ t < p) :
  FnV Tryz.prog 151 #[.agg #[vsub 1 ev (at_ * c) ((at_ + 1) * c), .int .i64 t, .int .i64 p], .int .i64 k, .int .i64 n] h [] (.int .i64 ((n + F at_ k * t) % p)) := by
 refine FnT.toV ?_
 have hb : 2 ≤ p ∧ p ≤ 997 := ⟨hp.1, hp.2.1⟩
 have b1 := mul_bd hF ht hb.2
 have hRa := hR.row ha
 have ea := vec_len c (F at_)
 refine fn_enter func151 ntmps151 rfl rfl (fun w0 hw0 => ?_)
 simp only [argS]
 refine RsQ ?_
 refine wl_box [_, _, _] rfl rfl (by rfl) rfl rfl rfl (fun g3 => ?_)
 refine Qm rfl (RnQ (ws_freezeB fun h' hle hS => ?_))
 have hRa := hRa.up hle
 have hA := Seg.all hS
 have hA0 := hA 0 _ rfl
 refine ws_seq (ws_stab (n := 14) (bs := [true, true, true, true, true, true, true, true, true, true, true, true, true, false]) [true, true, true, true, true, true, true, true, true, true, true, true, true] fol (by kernel_rfl) (by kernel_rfl) rfl rfl (Qp rfl (ox_move rfl rfl) (Qp rfl (ox_fieldF fd190_0 rfl rfl) (Qp rfl (ox_load rfl underlying24 rfl rfl (hA _ _ rfl _)) (Qp rfl (ox_move rfl rfl) (Qp rfl (ox_indexR (k) hRa.rd.any rfl underlying24 el3 rfl rfl (by omega) (by omega)) (Qp rfl (ox_load rfl underlying3 rfl rfl (hRa.any.ev hk)) (Qp rfl (ox_fieldF fd190_1 rfl rfl) (Qp rfl (ox_load rfl underlying3 rfl rfl (hA _ _ rfl _)) (Qp rfl (ox_mul rfl rfl rfl (by omega)) (Qp rfl (ox_add rfl rfl rfl (by omega)) (Qp rfl (ox_fieldF fd190_2 rfl rfl) (Qp rfl (ox_load rfl underlying3 rfl rfl (hA _ _ rfl _)) (Qp rfl (ox_remP rfl rfl rfl (by omega) (by omega)) ?_))))))))))))))
 unfold PZs
 simp only [List.cons_append, List.nil_append]
 refine Qo 13 rfl (Qm rfl (Qw (Qe (nx_then (ws_ret ?_)))))
 exact nx_ret1 rfl rfl (rfl)
theorem clone_ok (l : List Int) (v : Value) (h : Hp) (hR : RdL cI 1 h [] v l) (hl : l.length ≤ 1000000) : FnT Tryz.prog 51 #[v] h [] (fun x h' ms' => h = h' ∧ ∃ m, ms' = [m] ∧ OwnL cI 1 3 m x l) := by
 refine fn_enter func51 ntmps51 rfl rfl (fun w0 hw0 => ?_)
 simp only [argS]
 refine RsQ (Qm rfl (RnQ (ws_seq (RsQ (Qm rfl (Qx (ox_eqNil hR.rd.any rfl underlying24 rfl rfl) rfl (RnQ ?_)))))))
 refine ws_cond rfl (fun hn => ?_) (fun hn => ?_)
 ·have h0 := isNil_nil hR.rd hn
  obtain rfl : l = [] := List.eq_nil_of_length_eq_zero h0
  refine RsQ (Qm rfl (RnQ (ws_ret (nx_then_ret (nx_emp ?_)))))
  exact nx_ret1 rfl rfl (⟨rfl, _, rfl, OwnL.nil cI_len⟩)
 ·refine ws_skip (nx_then (RsQ ?_))
  refine wl_buildSlice [] [] [] rfl underlying24 el3 rfl (by omega) (by kernel_rfl) (by repeat (first | exact trivial | refine ⟨⟨by first | rfl | exact (hR.rd.any).cells | exact Rd.cells ‹_› | exact (RdL.rd ‹_›).cells, rfl, rfl⟩, ?_⟩)) rfl rfl rfl rfl (fun g5 => ?_)
  refine Qm rfl ?_
  have hO : OwnL cI 1 3 (Blk g5 3 []) (.slice (some ⟨g5, 0, none⟩) 0 0) [] := OwnL.blk (l := ([] : List Int)) 0 cI_len rfl (by omega)
  refine wl_appendL 0 hO hR.any rfl underlying24 el3 rfl (by omega) rfl rfl rfl cI_one (by simp; omega) (by simp; omega) rfl rfl rfl (fun v' m' hO' => ?_)
  refine Qm rfl (RnQ (ws_ret ?_))
  exact nx_ret1 rfl rfl (⟨rfl, m', rfl, hO'⟩)
theorem ox_red {o : Oper} {s : Slots} {h : Hp} {ms : List Hp} {x : Operand} {p : Int} {r c : Nat} {ev' : Value} (ho : o.op = .build 184 #[(0, x)]) (hx : ev s x = some (.agg #[.int .i64 p, .int .i64 r, .int .i64 c, ev'])) (h1 : ev'.oneCell' = true) :
  OX Tryz.prog o s h ms (.agg (cR p r c ev' (List.replicate 998 (.int .i64 0))).toArray) :=
 ox_buildS st184 ([.int .i64 0, .int .i64 0, .int .i64 0, .slice none 0 0] ++ List.replicate 998 (.int .i64 0)) [(0, [.int .i64 p, .int .i64 r, .int .i64 c, ev'])] _ (lp := [(0, x)]) (vs := [(0, .agg #[.int .i64 p, .int .i64 r, .int .i64 c, ev'])]) ho el184 (by kernel_rfl) (by simp only [evp, hx]) ⟨⟨rfl, rfl, rfl⟩, trivial⟩ rfl
end Go.Proofs.YtdnelknieikbaaaGreat
namespace Go.Proofs.YtdnelknieikbaaaGreat
open Tryz
open Go.Eng Go.RowKit Go.Lin
def pvI (pv : List Nat) : List Int := pv.map fun (k : Nat) => (k : Int)
theorem pvI_len (pv : List Nat) : (pvI pv).length = pv.length := by simp [pvI]
theorem pvI_rd {h : Hp} {ms : List Hp} {m2 : Hp} {vp : Value} {pv : List Nat} (O : OwnL cI 1 3 m2 vp (pvI pv)) (hm : m2 ∈ ms) : Rd h ms vp 1 pv.length ((pvI pv).flatMap cI) := by
 have := (O.rd (h := h) hm).rd
 rwa [pvI_len] at this
theorem ovk0 (p : Int) : Ovk p (List.replicate 998 0) := ⟨List.length_replicate, fun n hn => .inl (List.getElem_replicate _)⟩
def kst (p : Int) (t i j : Nat) (v : Int) (F : Nat → Nat → Int) (k a b : Nat) : Int := if a < k then rs3 p t i j v F a b else rs2 p t i v F a b
theorem kst_t (p : Int) (t i j : Nat) (v : Int) (F : Nat → Nat → Int) (k b : Nat) : kst p t i j v F k t b = rs2 p t i v F t b := by
 unfold kst; split
 ·unfold rs3; rw [if_pos rfl]
 ·rfl
theorem kst_k (p : Int) (t i j : Nat) (v : Int) (F : Nat → Nat → Int) (k b : Nat) : kst p t i j v F k k b = rs2 p t i v F k b := if_neg (by omega)
theorem kst_step (p : Int) (t i j : Nat) (v : Int) (F : Nat → Nat → Int) (k a b : Nat) (hk : k ≠ t) : (if a = k then (rs2 p t i v F k b + rs2 p t i v F t b * (p - rs2 p t i v F k j)) % p else kst p t i j v F k a b) = kst p t i j v F (k + 1) a b := by
 unfold kst
 by_cases h : a = k
 ·subst h
  rw [if_pos rfl, if_pos (by omega)]
  unfold rs3
  rw [if_neg hk]
 ·rw [if_neg h]
  by_cases h2 : a < k
  ·rw [if_pos h2, if_pos (by omega)]
  ·rw [if_neg h2, if_neg (by omega)]
theorem kst_same (p : Int) (t i j : Nat) (v : Int) (F : Nat → Nat → Int) (k a b : Nat) (h : k = t ∨ (rs2 p t i v F k j = 0 ∧ 0 ≤ rs2 p t i v F k b ∧ rs2 p t i v F k b < p)) : kst p t i j v F k a b = kst p t i j v F (k + 1) a b := by
 unfold kst
 by_cases h1 : a < k
 ·rw [if_pos h1, if_pos (by omega)]
 ·rw [if_neg h1]
  by_cases h2 : a = k
  ·subst h2
   rw [if_pos (by omega)]
   unfold rs3
   rcases h with rfl | ⟨h3, h4, h5⟩
   ·rw [if_pos rfl]
   ·by_cases h6 : a = t
    ·rw [if_pos h6, h6]
    ·rw [if_neg h6, h3, Int.sub_zero, Int.add_mul_emod_self_right, Int.emod_eq_of_lt h4 h5]
  ·rw [if_neg (by omega)]
theorem kst_zero (p : Int) (t i j : Nat) (v : Int) (F : Nat → Nat → Int) (a b : Nat) : (if a = t then F (swi t i t) b * v % p else F (swi t i a) b) = kst p t i j v F 0 a b := by
 unfold kst rs2
 rw [if_neg (show ¬ a < 0 by omega)]
theorem kst_all (p : Int) (t i j : Nat) (v : Int) (F : Nat → Nat → Int) (r a b : Nat) (ha : a < r) : kst p t i j v F r a b = rs3 p t i j v F a b := if_pos ha
theorem rs2_bd {p : Int} (hp : 2 ≤ p) {r c t i : Nat} {v : Int} {F : Nat → Nat → Int} (ht : t < r) (hi : i < r) (hF : ∀ a, a < r → ∀ b, b < c → 0 ≤ F a b ∧ F a b < p) (a : Nat) (ha : a < r) (b : Nat) (hb : b < c) : 0 ≤ rs2 p t i v F a b ∧ rs2 p t i v F a b < p := by
 unfold rs2; split
 ·exact ⟨Int.emod_nonneg _ (by omega), Int.emod_lt_of_pos _ (by omega)⟩
 ·exact hF _ (swi_lt ht hi ha) b hb
theorem pvI_snoc (pv : List Nat) (j : Nat) : pvI pv ++ [(j : Int)] = pvI (pv ++ [j]) := by simp [pvI]
theorem seg_red {h : Hp} {ms : List Hp} {g : Nat} {p : Int} {r c : Nat} {ev : Value} {ov : List Value} (hm : ms[0]? = some (BR g p r c ev ov)) : Seg h ms ((⟨g, 0, none⟩ : Addr).add 0) [.int .i64 p, .int .i64 r, .int .i64 c, ev] := fun k u hu => by
 rw [addr_add_add, Nat.zero_add]
 refine Cell.blk 0 hm ?_
 rcases k with _ | _ | _ | _ | k
 ·exact hu
 ·exact hu
 ·exact hu
 ·exact hu
 ·simp at hu
structure Ech (p : Int) (r c : Nat) (f F : Nat → Nat → Int) (pv : List Nat) : Prop where
 red : Red p r c f F pv c
theorem reduce_ok (p : Int) (r c : Nat) (f : Nat → Nat → Int) (ev : Value) (h : Hp) (hp : IsP p) (hr : r ≤ 400) (hc : c ≤ 800) (hf : InP p r c f) (hR : RdL cI 1 h [] ev (mat r c f)) :
  FnT Tryz.prog 136 #[.agg #[.int .i64 p, .int .i64 r, .int .i64 c, ev]] h [] (fun x h' ms' => h.le h' ∧ ∃ (F : Nat → Nat → Int) (pv : List Nat) (eu vp : Value) (m m2 : Hp), x = .tuple #[.agg #[.int .i64 p, .int .i64 r, .int .i64 c, eu], vp] ∧ ms' = [m, m2] ∧ OwnL cI 1 3 m eu (mat r c F) ∧ OwnL cI 1 3 m2 vp (pvI pv) ∧ Ech p r c f F pv) := by
 have hb : 2 ≤ p ∧ p ≤ 997 := ⟨hp.1, hp.2.1⟩
 have e1 := hR.rd.one
 have b2 : r * c ≤ 400 * 800 := Nat.mul_le_mul hr hc
 have el : (mat r c f).length = r * c := mat_len _ _ _
 refine fn_enter func136 ntmps136 rfl rfl (fun w0 hw0 => ?_)
 simp only [argS]
 refine RsQ ?_
 refine wl_box [_, _, _, _] rfl rfl (by rfl) rfl rfl rfl (fun g1 => ?_)
 refine AlQ [.int .i64 0, .int .i64 0, .int .i64 0, .slice none 0 0] rfl el42 rfl rfl (fun g2 => Qm rfl (RnQ (ws_scope (RsQ (Qx (ox_fieldF fd42_3 rfl rfl) rfl (Qx (ox_load rfl underlying24 rfl rfl (Cell.blk 1 rfl rfl)) rfl (wl_call rfl call51 rfl (clone_ok (mat r c f) ev h hR (by omega)) rfl rfl rfl (fun eu h1 ms1 l1 hF => ?_))))))))
 obtain ⟨rfl, m, rfl, hO⟩ := hF
 have e2 : eu.oneCell' = true := (hO.rd (h := h) (ms := [m]) (List.Mem.head _)).rd.one
 refine Qx (ox_fieldF fd42_3 rfl rfl) rfl ?_
 refine wl_storeAt 2 _ rfl el24 rfl rfl (by assumption) rfl rfl (by (simp; done)) rfl rfl ?_
 refine RnQ (ws_freezeBi 2 rfl fun h' hle hS => ?_)
 have hA := Seg.all hS
 have hA0 := hA 0 _ rfl
 refine RsQ (Qx (ox_loadG rfl underlying42 rfl el42 rfl rfl (Seg.any hS)) rfl (Qx (ox_red rfl rfl e2) rfl (wl_box (cR p r c eu (List.replicate 998 (.int .i64 0))) rfl rfl rfl rfl rfl rfl (fun g17 => ?_))))
 rw [cI_rep]
 refine Qm rfl (RtQ (Qm rfl (RnQ (ws_seq (ws_label (nx_then (ws_emp (ws_perm (ms' := [BR g17 p r c eu ((List.replicate 998 0).flatMap cI), m, Hp.emp, Blk g2 42 [.int .i64 0, .int .i64 0, .int .i64 0, .slice none 0 0]]) ((List.Perm.swap _ _ _).trans ((List.Perm.swap _ _ _).cons _)) (ws_seq (RsQ (Qx (ox_fieldF fd42_2 rfl rfl) rfl (Qx (ox_load rfl underlying3 rfl rfl (hA _ _ rfl _)) rfl (Qm rfl (RnQ (ws_block ?_)))))))))))))))
 refine ws_loop (fun q s hh ms' => ∃ (j : Nat) (F : Nat → Nat → Int) (pv : List Nat) (vp : Value) (ov : List Int) (m m2 : Hp), q = c - j ∧ s = [(1, .pointer (some ⟨g1, 0, none⟩)), (2, .pointer (some ⟨g2, 0, none⟩)), (4, .pointer (some ⟨g17, 0, none⟩)), (5, vp), (19, .int .i64 c), (20, .int .i64 j)] ∧ h' = hh ∧ ms' = [BR g17 p r c eu (ov.flatMap cI), m, m2, Blk g2 42 [.int .i64 0, .int .i64 0, .int .i64 0, .slice none 0 0]] ∧ j ≤ c ∧ OwnL cI 1 3 m eu (mat r c F) ∧ OwnL cI 1 3 m2 vp (pvI pv) ∧ Red p r c f F pv j ∧ Ovk p ov)
  (c - 0) _ ⟨0, f, [], _, List.replicate 998 0, m, _, rfl, rfl, rfl, rfl, by omega, hO, OwnL.nil cI_len, Red.start hf, ovk0 p⟩ Qs ?_
 rintro q s hh ms' ⟨j, F, pv, vp, ov, m, m2, rfl, rfl, rfl, rfl, hj, hO, hO2, hRed, hov⟩
 have hP := fun ms hm => pvI_rd (h := h') (ms := ms) hO2 hm
 have ovp := (hP [m2] (List.Mem.head _)).one
 have hlr := hRed.len
 refine RsQ (Qx (ox_lss rfl rfl rfl) rfl (RnQ (ws_seq ?_)))
 refine ws_if rfl (fun hlt => ?_) (fun hlt => ?_)
 ·have hjc : j < c := by omega
  refine ws_skip (nx_then (ws_seq (ws_block (RsQ (Qm rfl (Qm rfl (RtQ (Qm rfl (Qx (ox_lenR (hP _ (List.Mem.tail _ (List.Mem.tail _ (List.Mem.head _)))) rfl underlying24 rfl) rfl (Qm rfl (RtQ (Qm rfl (Qm rfl (RnQ (ws_block ?_)))))))))))))))
  refine ws_loop (fun q s hh ms' => ∃ (i : Nat), q = r - i ∧ s = [(1, .pointer (some ⟨g1, 0, none⟩)), (2, .pointer (some ⟨g2, 0, none⟩)), (4, .pointer (some ⟨g17, 0, none⟩)), (5, vp), (6, .int .i64 j), (7, .int .i64 pv.length), (8, .int .i64 i), (19, .int .i64 c), (20, .int .i64 j)] ∧ h' = hh ∧ ms' = [BR g17 p r c eu (ov.flatMap cI), m, m2, Blk g2 42 [.int .i64 0, .int .i64 0, .int .i64 0, .slice none 0 0]] ∧ pv.length ≤ i ∧ i ≤ r ∧ ∀ a, pv.length ≤ a → a < i → F a j = 0)
   (r - pv.length) _ ⟨pv.length, rfl, rfl, rfl, rfl, by omega, by omega, fun a h1 h2 => by omega⟩ Qs ?_
  rintro q s hh ms' ⟨i, rfl, rfl, rfl, rfl, hli, hir, hno⟩
  have hRow := fun i hi => (hO.rd (h := h') (ms := [m]) (List.Mem.head _)).row (i := i) hi
  have hcell : ∀ i, i < r → ∀ ms, m ∈ ms → Cell h' ms ((vbase (vsub 1 eu (i * c) ((i + 1) * c))).add (j * 1)) (.int .i64 (F i j)) := fun i hi ms hm => ((hO.rd (h := h') hm).row hi).ev hjc
  refine ws_seq (RsQ (Qm rfl (Qx (ox_fieldF fd42_1 rfl rfl) rfl (Qx (ox_load rfl underlying3 rfl rfl (hA _ _ rfl _)) rfl (Qx (ox_lss rfl rfl rfl) rfl (RnQ ?_))))))
  refine ws_if rfl (fun hlt2 => ?_) (fun hlt2 => ?_)
  ·have hi : i < r := by omega
   have ec := vec_len c (F i)
   refine ws_skip (nx_then (ws_seq (ws_block (ws_seq (RsQ (Qm rfl (Qm rfl (Qx (ox_call rfl call146 rfl (fnv_whole fun h' hl hm => row_v g17 p r c F eu _ _ h' (Seg.ofLe (hm _ (List.Mem.head _))) (hO.rdh (hm _ (List.Mem.tail _ (List.Mem.head _)))) (by assumption) hr hc)) rfl (Qm rfl (Qx (ox_indexS (j) (hRow i hi).rd rfl underlying24 el3 rfl rfl (by omega) (by omega)) rfl (Qx (ox_load rfl underlying3 rfl rfl (hcell i hi _ (List.Mem.tail _ (List.Mem.head _)))) rfl (Qx (ox_eqi rfl rfl rfl) rfl (RnQ ?_)))))))))))))
   refine ws_if rfl (fun hz => ?_) (fun hz => ?_)
   ·refine ws_exit (nx_then_exit (nx_block_exit (nx_then (ws_region (Qm rfl (Qx (ox_add rfl rfl rfl (by omega)) rfl (Qm rfl (wl_nil ?_))))))))
    refine nx_round (r - (i + 1)) _ (by omega) ⟨i + 1, rfl, rfl, rfl, rfl, by omega, by omega, fun a h1 h2 => ?_⟩ Qs
    rcases (by omega : a < i ∨ a = i) with h3 | rfl
    ·exact hno a h1 h3
    ·exact hz
   ·have ht : pv.length < r := by omega
    refine ws_skip (nx_then (RsQ (Qm rfl (Qm rfl (Qm rfl ?_)))))
    have hFi := hRed.bd i hi j hjc
    have hd0 := hRed.bd
    have hsi : swi pv.length i pv.length = i := by simp [swi]
    refine wl_call_ (pre := [BR g17 p r c eu (ov.flatMap cI), m]) rfl call147 rfl (swap_ok g17 p r c F eu _ m pv.length i h' hO ht hi hr hc) rfl rfl rfl rfl (fun x h2 ms2 l2 hF => ?_)
    obtain ⟨rfl, m, rfl, hO⟩ := hF
    have hcell1 : ∀ ms, m ∈ ms → Cell h' ms ((vbase (vsub 1 eu (pv.length * c) ((pv.length + 1) * c))).add (j * 1)) (.int .i64 (F i j)) := fun ms hm => by
     have := ((hO.rd (h := h') hm).row ht).ev hjc
     rw [hsi] at this
     exact this
    have hRow1 := fun i hi => (hO.rd (h := h') (ms := [m]) (List.Mem.head _)).row (i := i) hi
    have ec1 := vec_len c (fun b => F (swi pv.length i pv.length) b)
    refine RnQ (ws_seq (ws_stab (n := 16) (bs := [true, true, false, true, true, true, false, true, false, false, false, true, true, false, false, false]) [true, true, false, true, true, true, false, true, false, false, false, true, true] fol (by kernel_rfl) (by kernel_rfl) rfl rfl (Qp rfl (ox_move rfl rfl) (Qp rfl (ox_move rfl rfl) (Qp rfl (ox_move rfl rfl) (Qp rfl (ox_move rfl rfl) (Qp rfl (ox_move rfl rfl) (Qp rfl (ox_move rfl rfl) (Qp rfl (ox_fieldF fd42_0 rfl rfl) (Qp rfl (ox_load rfl underlying3 rfl rfl (hA0 _)) ?_))))))))))
    unfold PZs
    simp only [List.cons_append, List.nil_append]
    refine Qo 2 rfl (Qx (ox_call rfl call146 rfl (fnv_whole fun h' hl hm => row_v g17 p r c (fun a b => F (swi pv.length i a) b) eu _ _ h' (Seg.ofLe (hm _ (List.Mem.head _))) (hO.rdh (hm _ (List.Mem.tail _ (List.Mem.head _)))) (by assumption) hr hc)) rfl (Qw (Qo 6 rfl (Qx (ox_call rfl call146 rfl (fnv_whole fun h' hl hm => row_v g17 p r c (fun a b => F (swi pv.length i a) b) eu _ _ h' (Seg.ofLe (hm _ (List.Mem.head _))) (hO.rdh (hm _ (List.Mem.tail _ (List.Mem.head _)))) (by assumption) hr hc)) rfl (Qw (Qo 8 rfl (Qx (ox_indexS (j) (hRow1 pv.length ht).rd rfl underlying24 el3 rfl rfl (by omega) (by omega)) rfl (Qw (Qo 9 rfl (Qx (ox_load rfl underlying3 rfl rfl (hcell1 _ (List.Mem.tail _ (List.Mem.head _)))) rfl (Qw (Qo 10 rfl (wl_call_ (pre := [BR g17 p r c eu (ov.flatMap cI)]) rfl call149 rfl (invert_i g17 p r c eu ov (F i j) h' hp hov (by omega) (by omega)) rfl rfl rfl rfl (fun x h2 ms2 l2 hv => ?_))))))))))))))
    obtain ⟨rfl, v, ov, rfl, rfl, hov, hv0, hvp, hv1⟩ := hv
    refine Qw (Qo 13 rfl ?_)
    refine Qx (ox_buildS st190 [.slice none 0 0, .int .i64 0, .int .i64 0] [(0, _), (1, _), (2, _)] [_, _, _] rfl el190 rfl rfl (by repeat (first | exact trivial | refine ⟨⟨rfl, rfl, rfl⟩, ?_⟩ | refine ⟨⟨((hRow1 pv.length ht).rd).cells, rfl, rfl⟩, ?_⟩)) rfl) rfl ?_
    refine Qw (Qo 14 rfl (Qx (ox_makeFunc rfl rfl rfl) rfl (Qw (Qo 15 rfl (wl_swap ?_)))))
    refine wl_call_ (pre := [m]) rfl call148 rfl (each_ok r c (fun a b => F (swi pv.length i a) b) pv.length (fun b => F (swi pv.length i pv.length) b * v % p) eu m 150 [.agg #[.slice none 0 0, .int .i64 v, .int .i64 p]] h' hO ht hr hc call150 (fun k hk m' hO' => scale_v v p k _ h' hp (hd0 _ (by rw [hsi]; exact hi) k hk) ⟨Int.le_of_lt hv0, hvp⟩ _)) rfl rfl rfl rfl (fun x h2 ms2 l2 hE => ?_)
    obtain ⟨rfl, m, rfl, hO⟩ := hE
    refine wl_swap (Qw (Qe (nx_then (ws_seq (RsQ (Qx (ox_fieldF fd42_1 rfl rfl) rfl (Qx (ox_load rfl underlying3 rfl rfl (hA _ _ rfl _)) rfl (Qm rfl (RnQ (ws_block ?_))))))))))
    have hb2 := rs2_bd (v := v) hb.1 ht hi hd0
    refine ws_loop (fun q s hh ms' => ∃ (k : Nat) (m : Hp), q = r - k ∧ s = [(1, .pointer (some ⟨g1, 0, none⟩)), (2, .pointer (some ⟨g2, 0, none⟩)), (4, .pointer (some ⟨g17, 0, none⟩)), (5, vp), (6, .int .i64 j), (7, .int .i64 pv.length), (19, .int .i64 c), (20, .int .i64 j), (60, .int .i64 r), (61, .int .i64 k)] ∧ h' = hh ∧ ms' = [BR g17 p r c eu (ov.flatMap cI), m, m2, Blk g2 42 [.int .i64 0, .int .i64 0, .int .i64 0, .slice none 0 0]] ∧ k ≤ r ∧ OwnL cI 1 3 m eu (mat r c (kst p pv.length i j v F k)))
     (r - 0) _ ⟨0, m, rfl, rfl, rfl, rfl, by omega, by rw [mat_congr (fun a _ b _ => kst_zero p pv.length i j v F a b)] at hO; exact hO⟩ Qs ?_
    rintro q s hh ms' ⟨k, m, rfl, rfl, rfl, rfl, hkr, hO⟩
    have hcell2 : ∀ a, a < r → ∀ ms, m ∈ ms → Cell h' ms ((vbase (vsub 1 eu (a * c) ((a + 1) * c))).add (j * 1)) (.int .i64 (kst p pv.length i j v F k a j)) := fun a ha ms hm => ((hO.rd (h := h') hm).row ha).ev hjc
    have hRow2 := fun i hi => (hO.rd (h := h') (ms := [m]) (List.Mem.head _)).row (i := i) hi
    refine RsQ (Qx (ox_lss rfl rfl rfl) rfl (RnQ (ws_seq ?_)))
    refine ws_if rfl (fun hltk => ?_) (fun hltk => ?_)
    ·have hk : k < r := by omega
     have eck := vec_len c (kst p pv.length i j v F k k)
     have hn := hb2 k hk j hjc
     have hkk := kst_k p pv.length i j v F k
     refine ws_skip (nx_then (ws_seq (ws_block (RsQ (Qm rfl (Qm rfl (RtQ (Qm rfl (Qm rfl (Qx (ox_call rfl call146 rfl (fnv_whole fun h' hl hm => row_v g17 p r c (kst p pv.length i j v F k) eu _ _ h' (Seg.ofLe (hm _ (List.Mem.head _))) (hO.rdh (hm _ (List.Mem.tail _ (List.Mem.head _)))) (by assumption) hr hc)) rfl (Qm rfl (Qx (ox_indexS (j) (hRow2 k hk).rd rfl underlying24 el3 rfl rfl (by omega) (by omega)) rfl (Qx (ox_load rfl underlying3 rfl rfl ((hkk j ▸ hcell2 k hk _ (List.Mem.tail _ (List.Mem.head _))))) rfl (Qm rfl (RtQ (Qm rfl (Qm rfl (Qx (ox_nei rfl rfl rfl) rfl (Qm rfl ?_)))))))))))))))))))
     refine wl_split (t := 73) rfl (fun hkt => ?_) (fun hkt => ?_)
     ·have hkt' : k ≠ pv.length := by omega
      refine Qg (ox_move rfl rfl) rfl (Qg (ox_gtr rfl rfl rfl) rfl (Qx (ox_pick_t rfl rfl rfl) rfl (RnQ ?_)))
      refine ws_if rfl (fun hn0 => ?_) (fun hn0 => ?_)
      ·refine ws_stab (n := 15) (bs := [true, true, false, true, true, false, true, true, true, true, true, true, false, false, false]) [true, true, false, true, true, false, true, true, true, true, true, true] fol (by kernel_rfl) (by kernel_rfl) rfl rfl (Qp rfl (ox_move rfl rfl) (Qp rfl (ox_move rfl rfl) (Qp rfl (ox_move rfl rfl) (Qp rfl (ox_move rfl rfl) (Qp rfl (ox_fieldF fd42_0 rfl rfl) (Qp rfl (ox_load rfl underlying3 rfl rfl (hA0 _)) (Qp rfl (ox_move rfl rfl) (Qp rfl (ox_sub rfl rfl rfl (by omega)) (Qp rfl (ox_fieldF fd42_0 rfl rfl) (Qp rfl (ox_load rfl underlying3 rfl rfl (hA0 _)) ?_))))))))))
       unfold PZs
       simp only [List.cons_append, List.nil_append]
       refine Qo 2 rfl (Qx (ox_call rfl call146 rfl (fnv_whole fun h' hl hm => row_v g17 p r c (kst p pv.length i j v F k) eu _ _ h' (Seg.ofLe (hm _ (List.Mem.head _))) (hO.rdh (hm _ (List.Mem.tail _ (List.Mem.head _)))) (by assumption) hr hc)) rfl (Qw (Qo 5 rfl (Qx (ox_call rfl call146 rfl (fnv_whole fun h' hl hm => row_v g17 p r c (kst p pv.length i j v F k) eu _ _ h' (Seg.ofLe (hm _ (List.Mem.head _))) (hO.rdh (hm _ (List.Mem.tail _ (List.Mem.head _)))) (by assumption) hr hc)) rfl (Qw (Qo 12 rfl ?_))))))
       refine Qx (ox_buildS st190 [.slice none 0 0, .int .i64 0, .int .i64 0] [(0, _), (1, _), (2, _)] [_, _, _] rfl el190 rfl rfl (by repeat (first | exact trivial | refine ⟨⟨rfl, rfl, rfl⟩, ?_⟩ | refine ⟨⟨((hRow2 pv.length ht).rd).cells, rfl, rfl⟩, ?_⟩)) rfl) rfl ?_
       refine Qw (Qo 13 rfl (Qx (ox_makeFunc rfl rfl rfl) rfl (Qw (Qo 14 rfl (wl_swap ?_)))))
       refine wl_call_ (pre := [m]) rfl call148 rfl (each_ok r c (kst p pv.length i j v F k) k (fun b => (rs2 p pv.length i v F k b + rs2 p pv.length i v F pv.length b * (p - rs2 p pv.length i v F k j)) % p) eu m 151 [.agg #[vsub 1 eu (pv.length * c) ((pv.length + 1) * c), .int .i64 (p - rs2 p pv.length i v F k j), .int .i64 p]] h' hO hk hr hc call151 (fun b hbc m' hO' => fnv_whole fun h'' hl hm => by have := addc_v r c _ eu pv.length b (p - rs2 p pv.length i v F k j) p (kst p pv.length i j v F k k b) h'' (hO'.rdh (hm _ (List.Mem.head _))) ht hbc hp (by rw [kst_k]; exact hb2 k hk b hbc) (by rw [turn_ne _ _ _ _ _ _ (Ne.symm hkt'), kst_t]; exact hb2 _ ht b hbc) (by omega); rw [turn_ne _ _ _ _ _ _ (Ne.symm hkt'), kst_t, kst_k] at this; rw [kst_k]; exact this)) rfl rfl rfl rfl (fun x h2 ms2 l2 hE => ?_)
       obtain ⟨rfl, m, rfl, hO⟩ := hE
       refine wl_swap (Qw (Qe (nx_block (nx_then (ws_region (Qx (ox_add rfl rfl rfl (by omega)) rfl (Qm rfl (wl_nil ?_))))))))
       refine nx_round (r - (k + 1)) _ (by omega) ⟨k + 1, m, rfl, rfl, rfl, rfl, by omega, by rw [mat_congr (fun a _ b _ => kst_step p pv.length i j v F k a b hkt')] at hO; exact hO⟩ Qs
      ·refine ws_skip (nx_block (nx_then (ws_region (Qx (ox_add rfl rfl rfl (by omega)) rfl (Qm rfl (wl_nil ?_))))))
       refine nx_round (r - (k + 1)) _ (by omega) ⟨k + 1, m, rfl, rfl, rfl, rfl, by omega, ?_⟩ Qs
       rw [mat_congr (fun a _ b hbc => kst_same p pv.length i j v F k a b (.inr ⟨by omega, hb2 k hk b hbc⟩))] at hO
       exact hO
     ·refine Qk rfl (Qk rfl (Qx (ox_pick_f rfl rfl rfl) rfl (RnQ (ws_cond_f rfl (ws_skip (nx_block (nx_then (ws_region (Qx (ox_add rfl rfl rfl (by omega)) rfl (Qm rfl (wl_nil ?_)))))))))))
      refine nx_round (r - (k + 1)) _ (by omega) ⟨k + 1, m, rfl, rfl, rfl, rfl, by omega, ?_⟩ Qs
      rw [mat_congr (fun a _ b hbc => kst_same p pv.length i j v F k a b (.inl (by omega)))] at hO
      exact hO
    ·obtain rfl : k = r := by omega
     refine ws_exit (nx_then_exit (nx_then_exit (nx_block_exit (nx_then (RsQ (Qm rfl (Qm rfl ?_)))))))
     refine wl_buildSlice1 [_] rfl underlying24 el3 rfl (by rfl) rfl rfl (by omega) rfl rfl rfl (fun g95 => ?_)
     refine wl_appendL 3 hO2 (RdL.one cI_len (List.Mem.head _) rfl) rfl underlying24 el3 rfl (by omega) rfl rfl rfl cI_one (by simp only [pvI_len, List.length_singleton]; omega) (by simp only [pvI_len, List.length_singleton]; omega) rfl rfl rfl (fun vp' m2' hO2' => ?_)
     rw [pvI_snoc] at hO2'
     refine Qm rfl (RnQ (ws_exit (nx_block_out rfl (nx_then_exit (nx_then_exit (nx_block_out rfl (nx_block_exit (nx_then (ws_region (Qx (ox_add rfl rfl rfl (by omega)) rfl (Qm rfl (wl_nil (nx_drop ?_)))))))))))))
     refine nx_round (c - (j + 1)) _ (by omega) ⟨j + 1, rs3 p pv.length i j v F, pv ++ [j], vp', ov, m, m2', rfl, rfl, rfl, rfl, by omega, by rw [mat_congr (fun a ha b _ => kst_all p pv.length i j v F k a b ha)] at hO; exact hO, hO2', hRed.step hb.1 hi hli hjc hv1, hov⟩ Qs
  ·refine ws_exit (nx_then_exit (nx_then_exit (nx_block_exit (nx_block (nx_then (ws_region (Qx (ox_add rfl rfl rfl (by omega)) rfl (Qm rfl (wl_nil ?_)))))))))
   refine nx_round (c - (j + 1)) _ (by omega) ⟨j + 1, F, pv, vp, ov, m, m2, rfl, rfl, rfl, rfl, by omega, hO, hO2, hRed.skip fun a ha hl => hno a hl (by omega), hov⟩ Qs
 ·obtain rfl : j = c := by omega
  refine ws_exit (nx_then_exit (nx_then_exit (nx_block_exit (nx_then (RsQ (Qm rfl (Qx (ox_nilCheck rfl rfl) rfl (Qx (ox_fieldF fd184_0 rfl rfl) rfl (Qx (ox_loadG rfl underlying42 rfl el42 rfl rfl (seg_red rfl)) rfl (Qm rfl ?_))))))))))
  refine wl_storeAll 3 [_, _, _, _] rfl el42 rfl rfl rfl (by (simp [e2]; done)) rfl rfl rfl rfl rfl ?_
  refine Qm rfl (RnQ (ws_ret (nx_scope_ret (nx_drop ?_))))
  exact nx_retD2 (vs := [_, _, _, _]) 2 rfl rfl rfl underlying42 rfl el42 rfl rfl (⟨Hp.le_trans l1 hle, F, pv, eu, vp, m, m2, rfl, rfl, hO, hO2, ⟨hRed⟩⟩)
end Go.Proofs.YtdnelknieikbaaaGreat
namespace Go.Proofs.YtdnelknieikbaaaGreat
open Tryz
open Go.Eng Go.RowKit Go.Lin
theorem echelon_ok (p : Int) (r c : Nat) (f : Nat → Nat → Int) (ev : Value) (h : Hp) (R : RtM p r c f) (hR : RdL cI 1 h [] ev (mat r c f)) :
  FnT Tryz.prog 120 #[.agg #[.int .i64 p, .int .i64 r, .int .i64 c, ev]] h [] (fun x h' ms' => h.le h' ∧ ∃ (F : Nat → Nat → Int) (pv : List Nat) (eu vp : Value) (m m2 : Hp), x = .tuple #[.agg #[.int .i64 p, .int .i64 r, .int .i64 c, eu], vp] ∧ ms' = [m, m2] ∧ OwnL cI 1 3 m eu (mat r c F) ∧ OwnL cI 1 3 m2 vp (pvI pv) ∧ Ech p r c f F pv) := by
 refine fn_enter func120 ntmps120 rfl rfl (fun w0 hw0 => ?_)
 simp only [argS]
 refine RsQ ?_
 refine wl_box [_, _, _, _] rfl rfl (by rfl) rfl rfl rfl (fun g1 => ?_)
 refine AlQ [.int .i64 0, .int .i64 0, .int .i64 0, .slice none 0 0] rfl el42 rfl rfl (fun g2 => Qm rfl (RnQ (ws_seq (RsQ (Qx (ox_loadG rfl underlying42 rfl el42 rfl rfl (Seg.blk 1 rfl)) rfl (Qx (ox_call rfl call73 rfl (right_t R hR _)) rfl (Qx (ox_not rfl rfl) rfl (RnQ (ws_cond_f rfl (ws_skip (nx_then (RsQ (Qx (ox_loadG rfl underlying42 rfl el42 rfl rfl (Seg.blk 1 rfl)) rfl ?_)))))))))))))
 refine wl_call rfl call136 rfl (reduce_ok p r c f ev h R.pr R.rl (by have := R.cl; omega) R.en hR) rfl rfl rfl (fun x h1 ms1 l1 hF => ?_)
 obtain ⟨l2, F, pv, eu, vp, m, m2, rfl, rfl, hO, hO2, hE⟩ := hF
 have oe : eu.oneCell' = true := (hO.rd (h := h) (ms := [m]) (List.Mem.head _)).rd.one
 refine Qx (ox_extract rfl rfl rfl) rfl (Qx (ox_extract rfl rfl rfl) rfl ?_)
 refine wl_storeAll 2 [_, _, _, _] rfl el42 rfl rfl rfl (by (simp [oe]; done)) rfl rfl rfl rfl rfl ?_
 refine Qm rfl (RnQ (ws_ret (nx_dropAt 3 rfl ?_)))
 exact nx_retD2 (vs := [_, _, _, _]) 2 rfl rfl rfl underlying42 rfl el42 rfl rfl (⟨l1, F, pv, eu, vp, m, m2, rfl, rfl, hO, hO2, hE⟩)
theorem frank_ok (p : Int) (r c : Nat) (f : Nat → Nat → Int) (ev : Value) (h : Hp) (R : RtM p r c f) (hR : RdL cI 1 h [] ev (mat r c f)) :
  FnT Tryz.prog 96 #[.agg #[.int .i64 p, .int .i64 r, .int .i64 c, ev]] h [] (fun x h' ms' => h.le h' ∧ ms' = [] ∧ ∃ (F : Nat → Nat → Int) (pv : List Nat), x = .int .i64 pv.length ∧ Ech p r c f F pv) := by
 refine fn_enter func96 ntmps96 rfl rfl (fun w0 hw0 => ?_)
 simp only [argS]
 refine RsQ ?_
 refine wl_box [_, _, _, _] rfl rfl (by rfl) rfl rfl rfl (fun g1 => ?_)
 refine Qm rfl (RtQ (Qx (ox_loadG rfl underlying42 rfl el42 rfl rfl (Seg.blk 0 rfl)) rfl (wl_call rfl call120 rfl (echelon_ok p r c f ev h R hR) rfl rfl rfl (fun x h1 ms1 l1 hF => ?_))))
 obtain ⟨l2, F, pv, eu, vp, m, m2, rfl, rfl, hO, hO2, hE⟩ := hF
 have oe : eu.oneCell' = true := (hO.rd (h := h) (ms := [m]) (List.Mem.head _)).rd.one
 refine Qm rfl (Qx (ox_extract rfl rfl rfl) rfl (Qx (ox_extract rfl rfl rfl) rfl (AlQ [.int .i64 0, .int .i64 0, .int .i64 0, .slice none 0 0] rfl el42 rfl rfl (fun g3 => ?_))))
 refine wl_storeAll 0 [_, _, _, _] rfl el42 rfl rfl rfl (by (simp [oe]; done)) rfl rfl rfl rfl rfl ?_
 refine Qm rfl (RtQ (Qm rfl (Qx (ox_lenS (pvI_rd (h := h) (ms := [m2]) hO2 (List.Mem.head _)) rfl underlying24 rfl) rfl (Qm rfl (RnQ (ws_ret (nx_dropAt 3 rfl (nx_dropAt 2 rfl (nx_dropAt 1 rfl (nx_dropAt 0 rfl ?_))))))))))
 exact nx_ret1 rfl rfl (⟨l1, rfl, F, pv, rfl, hE⟩)
theorem joinf_ok (p : Int) (r c c' : Nat) (f g : Nat → Nat → Int) (ev eu : Value) (h : Hp) (R : RtM p r c f) (S : RtM p r c' g) (hcc : c + c' ≤ 400) (hR : RdL cI 1 h [] ev (mat r c f)) (hS : RdL cI 1 h [] eu (mat r c' g)) :
  FnT Tryz.prog 138 #[.agg #[.int .i64 p, .int .i64 r, .int .i64 c, ev], .agg #[.int .i64 p, .int .i64 r, .int .i64 c', eu]] h [] (fun x h' ms' => h.le h' ∧ ∃ v, x = .tuple #[v, .bool true] ∧ MadeM v ms' (mkM p r (c + c') (jn c f g))) := by
 have hb := R.bd
 have rl := R.rl
 have kl := R.cl
 have cl := S.cl
 refine fn_enter func138 ntmps138 rfl rfl (fun w0 hw0 => ?_)
 simp only [argS]
 refine RsQ ?_
 refine wl_box [_, _, _, _] rfl rfl (by rfl) rfl rfl rfl (fun g2 => ?_)
 refine wl_box [_, _, _, _] rfl rfl (by rfl) rfl rfl rfl (fun g3 => ?_)
 refine AlQ [.int .i64 0, .int .i64 0, .int .i64 0, .slice none 0 0] rfl el42 rfl rfl (fun g4 => Qm rfl (RnQ (ws_seq (RsQ (Qx (ox_loadG rfl underlying42 rfl el42 rfl rfl (Seg.blk 2 rfl)) rfl (Qx (ox_loadG rfl underlying42 rfl el42 rfl rfl (Seg.blk 1 rfl)) rfl (Qx (ox_call rfl call121 rfl (one2_t R S hR hS _)) rfl (Qx (ox_not rfl rfl) rfl (Qm rfl (Qg (ox_fieldF fd42_1 rfl rfl) rfl (Qg (ox_load rfl underlying3 rfl rfl (Cell.blk 2 rfl rfl)) rfl (Qg (ox_fieldF fd42_1 rfl rfl) rfl (Qg (ox_load rfl underlying3 rfl rfl (Cell.blk 1 rfl rfl)) rfl (Qg (ox_nei rfl rfl rfl) rfl (Qx (ox_pick_f rfl rfl rfl) rfl (Qm rfl ?_))))))))))))))))
 refine wl_split (t := 17) rfl (fun hs => ?_) (fun hs => ?_)
 ·exact absurd hs (by simp)
 ·refine Qg (ox_fieldF fd42_2 rfl rfl) rfl (Qg (ox_load rfl underlying3 rfl rfl (Cell.blk 2 rfl rfl)) rfl (Qg (ox_fieldF fd42_2 rfl rfl) rfl (Qg (ox_load rfl underlying3 rfl rfl (Cell.blk 1 rfl rfl)) rfl (Qg (ox_add rfl rfl rfl (by omega)) rfl (Qg (ox_gtr rfl rfl rfl) rfl (Qx (ox_pick_f rfl rfl rfl) rfl (RnQ (ws_if rfl (fun hc => absurd hc (by omega)) (fun hc => ws_skip (nx_then (RsQ (Qx (ox_loadG rfl underlying42 rfl el42 rfl rfl (Seg.blk 2 rfl)) rfl (Qx (ox_loadG rfl underlying42 rfl el42 rfl rfl (Seg.blk 1 rfl)) rfl (wl_call rfl call137 rfl (join_ok p r c c' f g ev eu h R S hR hS) rfl rfl rfl (fun v h1 ms1 l1 hF => ?_)))))))))))))))
  obtain ⟨l2, ew, m, rfl, rfl, hO⟩ := hF
  have oe : ew.oneCell' = true := (hO.rd (h := h) (ms := [m]) (List.Mem.head _)).rd.one
  refine wl_storeAll 1 [_, _, _, _] rfl el42 rfl rfl rfl (by (simp [oe]; done)) rfl rfl rfl rfl rfl ?_
  refine Qm rfl (RnQ (ws_ret (nx_dropAt 3 rfl (nx_dropAt 2 rfl ?_))))
  exact nx_retD2 (vs := [_, _, _, _]) 1 rfl rfl rfl underlying42 rfl el42 rfl rfl (⟨l2, _, rfl, ew, m, rfl, rfl, hO⟩)
end Go.Proofs.YtdnelknieikbaaaGreat
