/- The shapes of the plain data of this seat's program. Printed by a program of mine. -/
import Derived.Test.YtmoalocogccnbaaTy
import Derived.Test.YtmoalocogccnbaaV4
namespace Go.Proofs.Ytmoalocogccnbaa
open Go Go.Abs
theorem fits2 : Fits Try.prog (.int .i64) (.inl 2) := .int (by kernel_rfl)
theorem fits3 : Fits Try.prog (.int .i64) (.inl 3) := .int (by kernel_rfl)
theorem fits4 : Fits Try.prog (.bool) (.inl 4) := .bool (by kernel_rfl)
theorem fits5 : Fits Try.prog (.int .u8) (.inl 5) := .int (by kernel_rfl)
theorem fits9 : Fits Try.prog (.str) (.inl 9) := .str (by kernel_rfl)
theorem fits12 : Fits Try.prog (.int .u64) (.inl 12) := .int (by kernel_rfl)
theorem fits21 : Fits Try.prog (.int .i32) (.inl 21) := .int (by kernel_rfl)
theorem fits23 : Fits Try.prog (.int .u64) (.inl 23) := .int (by kernel_rfl)
theorem fits25 : Fits Try.prog (.sl (.int .i64)) (.inl 25) := .sl (by kernel_rfl : Go.Program.underlying Try.prog 25 = some (.slice 3)) (by kernel_rfl) fits3
theorem fits27 : Fits Try.prog (.pair (.int .i64) (.pair (.int .i64) (.pair (.bool) (.pair (.sl (.int .i64)) (.sl (.int .i64)))))) (.inl 27) := .st Try.underlying27 (.cons (by kernel_rfl) (by kernel_rfl) fits3 (.cons (by kernel_rfl) (by kernel_rfl) fits3 (.cons (by kernel_rfl) (by kernel_rfl) fits4 (.cons (by kernel_rfl) (by kernel_rfl) fits25 (.one (by kernel_rfl) (by kernel_rfl) fits25)))))
theorem fits36 : Fits Try.prog (.pair (.int .i64) (.pair (.int .i64) (.pair (.int .i64) (.pair (.int .i64) (.str))))) (.inl 36) := .st Try.underlying36 (.cons (by kernel_rfl) (by kernel_rfl) fits3 (.cons (by kernel_rfl) (by kernel_rfl) fits3 (.cons (by kernel_rfl) (by kernel_rfl) fits3 (.cons (by kernel_rfl) (by kernel_rfl) fits3 (.one (by kernel_rfl) (by kernel_rfl) fits9)))))
theorem fits33 : Fits Try.prog (.sl (.pair (.int .i64) (.pair (.int .i64) (.pair (.int .i64) (.pair (.int .i64) (.str)))))) (.inl 33) := .sl (by kernel_rfl : Go.Program.underlying Try.prog 33 = some (.slice 36)) (by kernel_rfl) fits36
theorem fits35 : Fits Try.prog (.pair (.int .i64) (.pair (.int .i64) (.pair (.int .i64) (.pair (.int .i64) (.str))))) (.inl 35) := .st Try.underlying35 (.cons (by kernel_rfl) (by kernel_rfl) fits3 (.cons (by kernel_rfl) (by kernel_rfl) fits3 (.cons (by kernel_rfl) (by kernel_rfl) fits3 (.cons (by kernel_rfl) (by kernel_rfl) fits3 (.one (by kernel_rfl) (by kernel_rfl) fits9)))))
theorem fits37 : Fits Try.prog (.sl (.int .u8)) (.inl 37) := .sl (by kernel_rfl : Go.Program.underlying Try.prog 37 = some (.slice 5)) (by kernel_rfl) fits5
theorem fits39 : Fits Try.prog (.sl (.str)) (.inl 39) := .sl (by kernel_rfl : Go.Program.underlying Try.prog 39 = some (.slice 9)) (by kernel_rfl) fits9
theorem fits51 : Fits Try.prog (.int .u32) (.inl 51) := .int (by kernel_rfl)
end Go.Proofs.Ytmoalocogccnbaa
