/- The shapes of the plain data of this seat's program. Printed by a program of mine. -/
import Derived.Test.YticidhkilfkgbaaTy
import Derived.Test.YticidhkilfkgbaaV4
namespace Go.Proofs.Yticidhkilfkgbaa
open Go Go.Abs
theorem fits2 : Fits Try.prog (.int .i64) (.inl 2) := .int (by kernel_rfl)
theorem fits3 : Fits Try.prog (.int .i64) (.inl 3) := .int (by kernel_rfl)
theorem fits4 : Fits Try.prog (.bool) (.inl 4) := .bool (by kernel_rfl)
theorem fits5 : Fits Try.prog (.int .u8) (.inl 5) := .int (by kernel_rfl)
theorem fits9 : Fits Try.prog (.str) (.inl 9) := .str (by kernel_rfl)
theorem fits12 : Fits Try.prog (.int .u64) (.inl 12) := .int (by kernel_rfl)
theorem fits21 : Fits Try.prog (.int .i32) (.inl 21) := .int (by kernel_rfl)
theorem fits22 : Fits Try.prog (.sl (.int .u8)) (.inl 22) := .sl (by kernel_rfl : Go.Program.underlying Try.prog 22 = some (.slice 5)) (by kernel_rfl) fits5
theorem fits24 : Fits Try.prog (.int .u64) (.inl 24) := .int (by kernel_rfl)
theorem fits25 : Fits Try.prog (.int .i64) (.inl 25) := .int (by kernel_rfl)
theorem fits31 : Fits Try.prog (.sl (.int .u64)) (.inl 31) := .sl (by kernel_rfl : Go.Program.underlying Try.prog 31 = some (.slice 24)) (by kernel_rfl) fits24
theorem fits32 : Fits Try.prog (.sl (.int .i64)) (.inl 32) := .sl (by kernel_rfl : Go.Program.underlying Try.prog 32 = some (.slice 2)) (by kernel_rfl) fits2
theorem fits41 : Fits Try.prog (.int .u64) (.inl 41) := .int (by kernel_rfl)
theorem fits43 : Fits Try.prog (.int .u32) (.inl 43) := .int (by kernel_rfl)
theorem fits46 : Fits Try.prog (.sl (.int .i64)) (.inl 46) := .sl (by kernel_rfl : Go.Program.underlying Try.prog 46 = some (.slice 3)) (by kernel_rfl) fits3
theorem fits49 : Fits Try.prog (.int .i8) (.inl 49) := .int (by kernel_rfl)
end Go.Proofs.Yticidhkilfkgbaa
