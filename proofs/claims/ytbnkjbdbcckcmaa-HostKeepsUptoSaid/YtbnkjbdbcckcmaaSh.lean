/- The shapes of the plain data of this seat's program. Printed by a program of mine. -/
import Derived.Test.YtbnkjbdbcckcmaaTy
import Derived.Test.YtbnkjbdbcckcmaaV4
namespace Go.Proofs.Ytbnkjbdbcckcmaa
open Go Go.Abs
theorem fits2 : Fits Try.prog (.int .i64) (.inl 2) := .int (by kernel_rfl)
theorem fits3 : Fits Try.prog (.int .i64) (.inl 3) := .int (by kernel_rfl)
theorem fits4 : Fits Try.prog (.bool) (.inl 4) := .bool (by kernel_rfl)
theorem fits5 : Fits Try.prog (.int .u8) (.inl 5) := .int (by kernel_rfl)
theorem fits9 : Fits Try.prog (.str) (.inl 9) := .str (by kernel_rfl)
theorem fits12 : Fits Try.prog (.int .u64) (.inl 12) := .int (by kernel_rfl)
theorem fits21 : Fits Try.prog (.int .i32) (.inl 21) := .int (by kernel_rfl)
theorem fits35 : Fits Try.prog (.int .u64) (.inl 35) := .int (by kernel_rfl)
theorem fits22 : Fits Try.prog (.sl (.int .u64)) (.inl 22) := .sl (by kernel_rfl : Go.Program.underlying Try.prog 22 = some (.slice 35)) (by kernel_rfl) fits35
theorem fits23 : Fits Try.prog (.sl (.int .u8)) (.inl 23) := .sl (by kernel_rfl : Go.Program.underlying Try.prog 23 = some (.slice 5)) (by kernel_rfl) fits5
theorem fits27 : Fits Try.prog (.sl (.int .i64)) (.inl 27) := .sl (by kernel_rfl : Go.Program.underlying Try.prog 27 = some (.slice 3)) (by kernel_rfl) fits3
theorem fits29 : Fits Try.prog (.pair (.sl (.int .i64)) (.sl (.int .i64))) (.inl 29) := .st Try.underlying29 (.cons (by kernel_rfl) (by kernel_rfl) fits27 (.one (by kernel_rfl) (by kernel_rfl) fits27))
theorem fits30 : Fits Try.prog (.int .i64) (.inl 30) := .int (by kernel_rfl)
theorem fits34 : Fits Try.prog (.pair (.str) (.pair (.str) (.int .i64))) (.inl 34) := .st Try.underlying34 (.cons (by kernel_rfl) (by kernel_rfl) fits9 (.cons (by kernel_rfl) (by kernel_rfl) fits9 (.one (by kernel_rfl) (by kernel_rfl) fits3)))
theorem fits39 : Fits Try.prog (.pair (.int .i64) (.sl (.int .u64))) (.inl 39) := .st Try.underlying39 (.cons (by kernel_rfl) (by kernel_rfl) fits3 (.one (by kernel_rfl) (by kernel_rfl) fits22))
theorem fits36 : Fits Try.prog (.sl (.pair (.int .i64) (.sl (.int .u64)))) (.inl 36) := .sl (by kernel_rfl : Go.Program.underlying Try.prog 36 = some (.slice 39)) (by kernel_rfl) fits39
theorem fits42 : Fits Try.prog (.int .u32) (.inl 42) := .int (by kernel_rfl)
theorem fits56 : Fits Try.prog (.pair (.int .i64) (.pair (.int .i64) (.pair (.int .i64) (.pair (.pair (.str) (.pair (.str) (.int .i64))) (.pair (.pair (.sl (.int .i64)) (.sl (.int .i64))) (.sl (.int .u64))))))) (.inl 56) := .st Try.underlying56 (.cons (by kernel_rfl) (by kernel_rfl) fits3 (.cons (by kernel_rfl) (by kernel_rfl) fits3 (.cons (by kernel_rfl) (by kernel_rfl) fits3 (.cons (by kernel_rfl) (by kernel_rfl) fits34 (.cons (by kernel_rfl) (by kernel_rfl) fits29 (.one (by kernel_rfl) (by kernel_rfl) fits22))))))
theorem fits50 : Fits Try.prog (.sl (.pair (.int .i64) (.pair (.int .i64) (.pair (.int .i64) (.pair (.pair (.str) (.pair (.str) (.int .i64))) (.pair (.pair (.sl (.int .i64)) (.sl (.int .i64))) (.sl (.int .u64)))))))) (.inl 50) := .sl (by kernel_rfl : Go.Program.underlying Try.prog 50 = some (.slice 56)) (by kernel_rfl) fits56
theorem fits57 : Fits Try.prog (.int .u64) (.inl 57) := .int (by kernel_rfl)
theorem fits63 : Fits Try.prog (.pair (.sl (.int .u64)) (.pair (.sl (.pair (.int .i64) (.sl (.int .u64)))) (.int .u32))) (.inl 63) := .st Try.underlying63 (.cons (by kernel_rfl) (by kernel_rfl) fits22 (.cons (by kernel_rfl) (by kernel_rfl) fits36 (.one (by kernel_rfl) (by kernel_rfl) fits42)))
theorem fits64 : Fits Try.prog (.pair (.sl (.int .u64)) (.pair (.sl (.pair (.int .i64) (.sl (.int .u64)))) (.int .u32))) (.inl 64) := .st Try.underlying64 (.cons (by kernel_rfl) (by kernel_rfl) fits22 (.cons (by kernel_rfl) (by kernel_rfl) fits36 (.one (by kernel_rfl) (by kernel_rfl) fits42)))
theorem fits77 : Fits Try.prog (.arr 16 (.int .u8)) (.inl 77) := .arr (by kernel_rfl : Go.Program.underlying Try.prog 77 = some (.array 16 5)) (by kernel_rfl) fits5
theorem fits65 : Fits Try.prog (.sl (.arr 16 (.int .u8))) (.inl 65) := .sl (by kernel_rfl : Go.Program.underlying Try.prog 65 = some (.slice 77)) (by kernel_rfl) fits77
theorem fits71 : Fits Try.prog (.pair (.sl (.int .u64)) (.pair (.int .i64) (.pair (.sl (.pair (.int .i64) (.sl (.int .u64)))) (.int .u32)))) (.inl 71) := .st Try.underlying71 (.cons (by kernel_rfl) (by kernel_rfl) fits22 (.cons (by kernel_rfl) (by kernel_rfl) fits3 (.cons (by kernel_rfl) (by kernel_rfl) fits36 (.one (by kernel_rfl) (by kernel_rfl) fits42))))
theorem fits75 : Fits Try.prog (.pair (.int .u64) (.int .u64)) (.inl 75) := .st Try.underlying75 (.cons (by kernel_rfl) (by kernel_rfl) fits35 (.one (by kernel_rfl) (by kernel_rfl) fits35))
end Go.Proofs.Ytbnkjbdbcckcmaa
