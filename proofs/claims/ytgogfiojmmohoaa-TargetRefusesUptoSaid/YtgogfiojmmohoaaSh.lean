/- The shapes of the plain data of this seat's program. Printed by a program of mine. -/
import Derived.Test.YtgogfiojmmohoaaTy
import Derived.Test.YtgogfiojmmohoaaV4
namespace Go.Proofs.Ytgogfiojmmohoaa
open Go Go.Abs
theorem fits2 : Fits Try.prog (.int .i64) (.inl 2) := .int (by kernel_rfl)
theorem fits3 : Fits Try.prog (.int .i64) (.inl 3) := .int (by kernel_rfl)
theorem fits4 : Fits Try.prog (.bool) (.inl 4) := .bool (by kernel_rfl)
theorem fits5 : Fits Try.prog (.int .u8) (.inl 5) := .int (by kernel_rfl)
theorem fits9 : Fits Try.prog (.str) (.inl 9) := .str (by kernel_rfl)
theorem fits12 : Fits Try.prog (.int .u64) (.inl 12) := .int (by kernel_rfl)
theorem fits21 : Fits Try.prog (.int .i32) (.inl 21) := .int (by kernel_rfl)
theorem fits27 : Fits Try.prog (.sl (.int .i64)) (.inl 27) := .sl (by kernel_rfl : Go.Program.underlying Try.prog 27 = some (.slice 3)) (by kernel_rfl) fits3
theorem fits46 : Fits Try.prog (.pair (.sl (.int .i64)) (.sl (.int .i64))) (.inl 46) := .st Try.underlying46 (.cons (by kernel_rfl) (by kernel_rfl) fits27 (.one (by kernel_rfl) (by kernel_rfl) fits27))
theorem fits22 : Fits Try.prog (.sl (.pair (.sl (.int .i64)) (.sl (.int .i64)))) (.inl 22) := .sl (by kernel_rfl : Go.Program.underlying Try.prog 22 = some (.slice 46)) (by kernel_rfl) fits46
theorem fits38 : Fits Try.prog (.int .u64) (.inl 38) := .int (by kernel_rfl)
theorem fits40 : Fits Try.prog (.pair (.int .i64) (.pair (.int .i64) (.int .u64))) (.inl 40) := .st Try.underlying40 (.cons (by kernel_rfl) (by kernel_rfl) fits3 (.cons (by kernel_rfl) (by kernel_rfl) fits3 (.one (by kernel_rfl) (by kernel_rfl) fits38)))
theorem fits30 : Fits Try.prog (.sl (.pair (.int .i64) (.pair (.int .i64) (.int .u64)))) (.inl 30) := .sl (by kernel_rfl : Go.Program.underlying Try.prog 30 = some (.slice 40)) (by kernel_rfl) fits40
theorem fits32 : Fits Try.prog (.pair (.int .i64) (.pair (.int .i64) (.pair (.int .i64) (.pair (.int .i64) (.pair (.int .i64) (.pair (.sl (.pair (.int .i64) (.pair (.int .i64) (.int .u64)))) (.sl (.int .i64)))))))) (.inl 32) := .st Try.underlying32 (.cons (by kernel_rfl) (by kernel_rfl) fits3 (.cons (by kernel_rfl) (by kernel_rfl) fits3 (.cons (by kernel_rfl) (by kernel_rfl) fits3 (.cons (by kernel_rfl) (by kernel_rfl) fits3 (.cons (by kernel_rfl) (by kernel_rfl) fits3 (.cons (by kernel_rfl) (by kernel_rfl) fits30 (.one (by kernel_rfl) (by kernel_rfl) fits27)))))))
theorem fits23 : Fits Try.prog (.sl (.pair (.int .i64) (.pair (.int .i64) (.pair (.int .i64) (.pair (.int .i64) (.pair (.int .i64) (.pair (.sl (.pair (.int .i64) (.pair (.int .i64) (.int .u64)))) (.sl (.int .i64))))))))) (.inl 23) := .sl (by kernel_rfl : Go.Program.underlying Try.prog 23 = some (.slice 32)) (by kernel_rfl) fits32
theorem fits25 : Fits Try.prog (.pair (.sl (.pair (.sl (.int .i64)) (.sl (.int .i64)))) (.sl (.pair (.int .i64) (.pair (.int .i64) (.pair (.int .i64) (.pair (.int .i64) (.pair (.int .i64) (.pair (.sl (.pair (.int .i64) (.pair (.int .i64) (.int .u64)))) (.sl (.int .i64)))))))))) (.inl 25) := .st Try.underlying25 (.cons (by kernel_rfl) (by kernel_rfl) fits22 (.one (by kernel_rfl) (by kernel_rfl) fits23))
theorem fits33 : Fits Try.prog (.int .i64) (.inl 33) := .int (by kernel_rfl)
theorem fits35 : Fits Try.prog (.sl (.bool)) (.inl 35) := .sl (by kernel_rfl : Go.Program.underlying Try.prog 35 = some (.slice 4)) (by kernel_rfl) fits4
theorem fits42 : Fits Try.prog (.int .u64) (.inl 42) := .int (by kernel_rfl)
theorem fits52 : Fits Try.prog (.pair (.int .i64) (.pair (.int .i64) (.pair (.bool) (.pair (.sl (.int .i64)) (.sl (.int .i64)))))) (.inl 52) := .st Try.underlying52 (.cons (by kernel_rfl) (by kernel_rfl) fits3 (.cons (by kernel_rfl) (by kernel_rfl) fits3 (.cons (by kernel_rfl) (by kernel_rfl) fits4 (.cons (by kernel_rfl) (by kernel_rfl) fits27 (.one (by kernel_rfl) (by kernel_rfl) fits27)))))
theorem fits64 : Fits Try.prog (.pair (.int .i64) (.pair (.int .i64) (.pair (.int .i64) (.pair (.int .i64) (.str))))) (.inl 64) := .st Try.underlying64 (.cons (by kernel_rfl) (by kernel_rfl) fits3 (.cons (by kernel_rfl) (by kernel_rfl) fits3 (.cons (by kernel_rfl) (by kernel_rfl) fits3 (.cons (by kernel_rfl) (by kernel_rfl) fits3 (.one (by kernel_rfl) (by kernel_rfl) fits9)))))
theorem fits61 : Fits Try.prog (.sl (.pair (.int .i64) (.pair (.int .i64) (.pair (.int .i64) (.pair (.int .i64) (.str)))))) (.inl 61) := .sl (by kernel_rfl : Go.Program.underlying Try.prog 61 = some (.slice 64)) (by kernel_rfl) fits64
theorem fits63 : Fits Try.prog (.pair (.int .i64) (.pair (.int .i64) (.pair (.int .i64) (.pair (.int .i64) (.str))))) (.inl 63) := .st Try.underlying63 (.cons (by kernel_rfl) (by kernel_rfl) fits3 (.cons (by kernel_rfl) (by kernel_rfl) fits3 (.cons (by kernel_rfl) (by kernel_rfl) fits3 (.cons (by kernel_rfl) (by kernel_rfl) fits3 (.one (by kernel_rfl) (by kernel_rfl) fits9)))))
theorem fits65 : Fits Try.prog (.sl (.int .u8)) (.inl 65) := .sl (by kernel_rfl : Go.Program.underlying Try.prog 65 = some (.slice 5)) (by kernel_rfl) fits5
theorem fits76 : Fits Try.prog (.int .u32) (.inl 76) := .int (by kernel_rfl)
end Go.Proofs.Ytgogfiojmmohoaa
