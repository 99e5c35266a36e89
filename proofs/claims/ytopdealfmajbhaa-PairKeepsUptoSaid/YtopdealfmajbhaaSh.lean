/- The shapes of the plain data of this seat's program. Printed by a program of mine. -/
import Derived.Test.YtopdealfmajbhaaTy
import Derived.Test.YtopdealfmajbhaaV4
namespace Go.Proofs.Ytopdealfmajbhaa
open Go Go.Abs
theorem fits2 : Fits Try.prog (.int .i64) (.inl 2) := .int (by kernel_rfl)
theorem fits3 : Fits Try.prog (.int .i64) (.inl 3) := .int (by kernel_rfl)
theorem fits4 : Fits Try.prog (.bool) (.inl 4) := .bool (by kernel_rfl)
theorem fits5 : Fits Try.prog (.int .u8) (.inl 5) := .int (by kernel_rfl)
theorem fits9 : Fits Try.prog (.str) (.inl 9) := .str (by kernel_rfl)
theorem fits12 : Fits Try.prog (.int .u64) (.inl 12) := .int (by kernel_rfl)
theorem fits21 : Fits Try.prog (.int .i32) (.inl 21) := .int (by kernel_rfl)
theorem fits29 : Fits Try.prog (.int .u64) (.inl 29) := .int (by kernel_rfl)
theorem fits22 : Fits Try.prog (.sl (.int .u64)) (.inl 22) := .sl (by kernel_rfl : Go.Program.underlying Try.prog 22 = some (.slice 29)) (by kernel_rfl) fits29
theorem fits25 : Fits Try.prog (.arr 16 (.int .u8)) (.inl 25) := .arr (by kernel_rfl : Go.Program.underlying Try.prog 25 = some (.array 16 5)) (by kernel_rfl) fits5
theorem fits31 : Fits Try.prog (.pair (.arr 16 (.int .u8)) (.pair (.int .i64) (.pair (.int .i64) (.int .u64)))) (.inl 31) := .st Try.underlying31 (.cons (by kernel_rfl) (by kernel_rfl) fits25 (.cons (by kernel_rfl) (by kernel_rfl) fits3 (.cons (by kernel_rfl) (by kernel_rfl) fits3 (.one (by kernel_rfl) (by kernel_rfl) fits29))))
theorem fits34 : Fits Try.prog (.int .u64) (.inl 34) := .int (by kernel_rfl)
theorem fits40 : Fits Try.prog (.pair (.int .u64) (.int .u64)) (.inl 40) := .st Try.underlying40 (.cons (by kernel_rfl) (by kernel_rfl) fits29 (.one (by kernel_rfl) (by kernel_rfl) fits29))
theorem fits44 : Fits Try.prog (.sl (.pair (.arr 16 (.int .u8)) (.pair (.int .i64) (.pair (.int .i64) (.int .u64))))) (.inl 44) := .sl (by kernel_rfl : Go.Program.underlying Try.prog 44 = some (.slice 31)) (by kernel_rfl) fits31
theorem fits47 : Fits Try.prog (.sl (.int .i64)) (.inl 47) := .sl (by kernel_rfl : Go.Program.underlying Try.prog 47 = some (.slice 3)) (by kernel_rfl) fits3
theorem fits48 : Fits Try.prog (.sl (.arr 16 (.int .u8))) (.inl 48) := .sl (by kernel_rfl : Go.Program.underlying Try.prog 48 = some (.slice 25)) (by kernel_rfl) fits25
theorem fits49 : Fits Try.prog (.int .i64) (.inl 49) := .int (by kernel_rfl)
theorem fits61 : Fits Try.prog (.sl (.int .u8)) (.inl 61) := .sl (by kernel_rfl : Go.Program.underlying Try.prog 61 = some (.slice 5)) (by kernel_rfl) fits5
theorem fits71 : Fits Try.prog (.int .u32) (.inl 71) := .int (by kernel_rfl)
end Go.Proofs.Ytopdealfmajbhaa
