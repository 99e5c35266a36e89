/- The shapes of the plain data of this seat's program. Printed by a program of mine. -/
import Derived.Test.YteppkbaeacndiaaGCB
import Derived.Test.YteppkbaeacndiaaV4
set_option linter.unusedSimpArgs false
set_option linter.unusedVariables false
namespace Go.Proofs.Yteppkbaeacndiaa
open Go Go.Abs
theorem fits2 : Fits Try.prog (.int .i64) (.inl 2) := .int (by kernel_rfl)
theorem fits3 : Fits Try.prog (.int .i64) (.inl 3) := .int (by kernel_rfl)
theorem fits4 : Fits Try.prog (.bool) (.inl 4) := .bool (by kernel_rfl)
theorem fits5 : Fits Try.prog (.int .u8) (.inl 5) := .int (by kernel_rfl)
theorem fits9 : Fits Try.prog (.str) (.inl 9) := .str (by kernel_rfl)
theorem fits12 : Fits Try.prog (.int .u64) (.inl 12) := .int (by kernel_rfl)
theorem fits21 : Fits Try.prog (.int .i32) (.inl 21) := .int (by kernel_rfl)
theorem fits22 : Fits Try.prog (.sl (.int .u8)) (.inl 22) := .sl (by kernel_rfl : Go.Program.underlying Try.prog 22 = some (.slice 5)) (by kernel_rfl) fits5
theorem fits35 : Fits Try.prog (.int .u64) (.inl 35) := .int (by kernel_rfl)
theorem fits36 : Fits Try.prog (.sl (.int .i64)) (.inl 36) := .sl (by kernel_rfl : Go.Program.underlying Try.prog 36 = some (.slice 3)) (by kernel_rfl) fits3
theorem fits38 : Fits Try.prog (.pair (.int .i64) (.pair (.int .i64) (.pair (.int .i64) (.pair (.int .u64) (.pair (.int .u64) (.sl (.int .i64))))))) (.inl 38) := .st Try.underlying38 (.cons (by kernel_rfl) (by kernel_rfl) fits3 (.cons (by kernel_rfl) (by kernel_rfl) fits3 (.cons (by kernel_rfl) (by kernel_rfl) fits3 (.cons (by kernel_rfl) (by kernel_rfl) fits35 (.cons (by kernel_rfl) (by kernel_rfl) fits35 (.one (by kernel_rfl) (by kernel_rfl) fits36))))))
theorem fits24 : Fits Try.prog (.sl (.pair (.int .i64) (.pair (.int .i64) (.pair (.int .i64) (.pair (.int .u64) (.pair (.int .u64) (.sl (.int .i64)))))))) (.inl 24) := .sl (by kernel_rfl : Go.Program.underlying Try.prog 24 = some (.slice 38)) (by kernel_rfl) fits38
theorem fits25 : Fits Try.prog (.int .i64) (.inl 25) := .int (by kernel_rfl)
theorem fits33 : Fits Try.prog (.int .u64) (.inl 33) := .int (by kernel_rfl)
theorem fits42 : Fits Try.prog (.pair (.sl (.int .u8)) (.pair (.int .i64) (.pair (.sl (.int .i64)) (.int .i64)))) (.inl 42) := .st Try.underlying42 (.cons (by kernel_rfl) (by kernel_rfl) fits22 (.cons (by kernel_rfl) (by kernel_rfl) fits3 (.cons (by kernel_rfl) (by kernel_rfl) fits36 (.one (by kernel_rfl) (by kernel_rfl) fits25))))
theorem fits43 : Fits Try.prog (.pair (.sl (.int .u8)) (.pair (.int .i64) (.pair (.sl (.int .i64)) (.int .i64)))) (.inl 43) := .st Try.underlying43 (.cons (by kernel_rfl) (by kernel_rfl) fits22 (.cons (by kernel_rfl) (by kernel_rfl) fits3 (.cons (by kernel_rfl) (by kernel_rfl) fits36 (.one (by kernel_rfl) (by kernel_rfl) fits25))))
theorem fits48 : Fits Try.prog (.pair (.int .i64) (.pair (.int .i64) (.pair (.bool) (.pair (.sl (.int .i64)) (.sl (.int .i64)))))) (.inl 48) := .st Try.underlying48 (.cons (by kernel_rfl) (by kernel_rfl) fits3 (.cons (by kernel_rfl) (by kernel_rfl) fits3 (.cons (by kernel_rfl) (by kernel_rfl) fits4 (.cons (by kernel_rfl) (by kernel_rfl) fits36 (.one (by kernel_rfl) (by kernel_rfl) fits36)))))
theorem fits65 : Fits Try.prog (.sl (.str)) (.inl 65) := .sl (by kernel_rfl : Go.Program.underlying Try.prog 65 = some (.slice 9)) (by kernel_rfl) fits9
theorem fits79 : Fits Try.prog (.sl (.int .i64)) (.inl 79) := .sl (by kernel_rfl : Go.Program.underlying Try.prog 79 = some (.slice 2)) (by kernel_rfl) fits2
theorem fits82 : Fits Try.prog (.arr 16 (.int .u8)) (.inl 82) := .arr (by kernel_rfl : Go.Program.underlying Try.prog 82 = some (.array 16 5)) (by kernel_rfl) fits5
theorem fits85 : Fits Try.prog (.pair (.int .u64) (.int .u64)) (.inl 85) := .st Try.underlying85 (.cons (by kernel_rfl) (by kernel_rfl) fits35 (.one (by kernel_rfl) (by kernel_rfl) fits35))
theorem fits91 : Fits Try.prog (.pair (.int .i64) (.pair (.int .i64) (.pair (.int .i64) (.pair (.int .i64) (.str))))) (.inl 91) := .st Try.underlying91 (.cons (by kernel_rfl) (by kernel_rfl) fits3 (.cons (by kernel_rfl) (by kernel_rfl) fits3 (.cons (by kernel_rfl) (by kernel_rfl) fits3 (.cons (by kernel_rfl) (by kernel_rfl) fits3 (.one (by kernel_rfl) (by kernel_rfl) fits9)))))
theorem fits88 : Fits Try.prog (.sl (.pair (.int .i64) (.pair (.int .i64) (.pair (.int .i64) (.pair (.int .i64) (.str)))))) (.inl 88) := .sl (by kernel_rfl : Go.Program.underlying Try.prog 88 = some (.slice 91)) (by kernel_rfl) fits91
theorem fits90 : Fits Try.prog (.pair (.int .i64) (.pair (.int .i64) (.pair (.int .i64) (.pair (.int .i64) (.str))))) (.inl 90) := .st Try.underlying90 (.cons (by kernel_rfl) (by kernel_rfl) fits3 (.cons (by kernel_rfl) (by kernel_rfl) fits3 (.cons (by kernel_rfl) (by kernel_rfl) fits3 (.cons (by kernel_rfl) (by kernel_rfl) fits3 (.one (by kernel_rfl) (by kernel_rfl) fits9)))))
theorem fits92 : Fits Try.prog (.int .u32) (.inl 92) := .int (by kernel_rfl)
theorem fits97 : Fits Try.prog (.sl (.int .u64)) (.inl 97) := .sl (by kernel_rfl : Go.Program.underlying Try.prog 97 = some (.slice 35)) (by kernel_rfl) fits35
theorem fits105 : Fits Try.prog (.int .i8) (.inl 105) := .int (by kernel_rfl)
end Go.Proofs.Yteppkbaeacndiaa
