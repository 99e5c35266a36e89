/- The shapes of the plain data of this seat's program. Printed by a program of mine. -/
import Derived.Test.YtgmhfbdmigfgbaaTy
import Derived.Test.YtgmhfbdmigfgbaaV4
namespace Go.Proofs.Ytgmhfbdmigfgbaa
open Go Go.Abs
theorem fits2 : Fits Try.prog (.int .i64) (.inl 2) := .int (by kernel_rfl)
theorem fits3 : Fits Try.prog (.int .i64) (.inl 3) := .int (by kernel_rfl)
theorem fits4 : Fits Try.prog (.bool) (.inl 4) := .bool (by kernel_rfl)
theorem fits5 : Fits Try.prog (.int .u8) (.inl 5) := .int (by kernel_rfl)
theorem fits9 : Fits Try.prog (.str) (.inl 9) := .str (by kernel_rfl)
theorem fits12 : Fits Try.prog (.int .u64) (.inl 12) := .int (by kernel_rfl)
theorem fits21 : Fits Try.prog (.int .i32) (.inl 21) := .int (by kernel_rfl)
theorem fits22 : Fits Try.prog (.int .u64) (.inl 22) := .int (by kernel_rfl)
theorem fits24 : Fits Try.prog (.pair (.int .i64) (.pair (.int .i64) (.int .u64))) (.inl 24) := .st Try.underlying24 (.cons (by kernel_rfl) (by kernel_rfl) fits3 (.cons (by kernel_rfl) (by kernel_rfl) fits3 (.one (by kernel_rfl) (by kernel_rfl) fits22)))
theorem fits26 : Fits Try.prog (.arr 16 (.int .u8)) (.inl 26) := .arr (by kernel_rfl : Go.Program.underlying Try.prog 26 = some (.array 16 5)) (by kernel_rfl) fits5
theorem fits28 : Fits Try.prog (.int .i64) (.inl 28) := .int (by kernel_rfl)
theorem fits40 : Fits Try.prog (.int .u64) (.inl 40) := .int (by kernel_rfl)
theorem fits53 : Fits Try.prog (.int .u32) (.inl 53) := .int (by kernel_rfl)
theorem fits55 : Fits Try.prog (.sl (.int .u64)) (.inl 55) := .sl (by kernel_rfl : Go.Program.underlying Try.prog 55 = some (.slice 22)) (by kernel_rfl) fits22
theorem fits57 : Fits Try.prog (.sl (.int .u8)) (.inl 57) := .sl (by kernel_rfl : Go.Program.underlying Try.prog 57 = some (.slice 5)) (by kernel_rfl) fits5
end Go.Proofs.Ytgmhfbdmigfgbaa
