/- Which functions may be called. -/
import Derived.Test.YtmomeejfopfchaaDoorGTy
set_option linter.unusedSimpArgs false
set_option linter.unusedVariables false
namespace Go.Proofs.YtmomeejfopfchaaDoor
open Go Go.Abs
theorem cb8 : callable Tryd.prog 8 = true := by kernel_rfl
theorem cb9 : callable Tryd.prog 9 = true := by kernel_rfl
theorem cb10 : callable Tryd.prog 10 = true := by kernel_rfl
theorem cb11 : callable Tryd.prog 11 = true := by kernel_rfl
theorem cb13 : callable Tryd.prog 13 = true := by kernel_rfl
theorem cb14 : callable Tryd.prog 14 = true := by kernel_rfl
theorem cb15 : callable Tryd.prog 15 = true := by kernel_rfl
theorem cb16 : callable Tryd.prog 16 = true := by kernel_rfl
theorem cb17 : callable Tryd.prog 17 = true := by kernel_rfl
theorem cb18 : callable Tryd.prog 18 = true := by kernel_rfl
theorem cb19 : callable Tryd.prog 19 = true := by kernel_rfl
theorem cb20 : callable Tryd.prog 20 = true := by kernel_rfl
theorem cb21 : callable Tryd.prog 21 = true := by kernel_rfl
theorem cb22 : callable Tryd.prog 22 = true := by kernel_rfl
theorem cb23 : callable Tryd.prog 23 = true := by kernel_rfl
theorem cb26 : callable Tryd.prog 26 = true := by kernel_rfl
theorem cb27 : callable Tryd.prog 27 = true := by kernel_rfl
theorem cb29 : callable Tryd.prog 29 = true := by kernel_rfl
theorem cb30 : callable Tryd.prog 30 = true := by kernel_rfl
theorem cb31 : callable Tryd.prog 31 = true := by kernel_rfl
theorem cb32 : callable Tryd.prog 32 = true := by kernel_rfl
theorem cb33 : callable Tryd.prog 33 = true := by kernel_rfl
theorem cb34 : callable Tryd.prog 34 = true := by kernel_rfl
theorem cb35 : callable Tryd.prog 35 = true := by kernel_rfl
theorem cb36 : callable Tryd.prog 36 = true := by kernel_rfl
theorem cb37 : callable Tryd.prog 37 = true := by kernel_rfl
theorem cb38 : callable Tryd.prog 38 = true := by kernel_rfl
theorem cb39 : callable Tryd.prog 39 = true := by kernel_rfl
theorem cb40 : callable Tryd.prog 40 = true := by kernel_rfl
theorem cb41 : callable Tryd.prog 41 = true := by kernel_rfl
theorem cb42 : callable Tryd.prog 42 = true := by kernel_rfl
theorem cb43 : callable Tryd.prog 43 = true := by kernel_rfl
theorem cb44 : callable Tryd.prog 44 = true := by kernel_rfl
theorem cb45 : callable Tryd.prog 45 = true := by kernel_rfl
theorem cb46 : callable Tryd.prog 46 = true := by kernel_rfl
theorem cb47 : callable Tryd.prog 47 = true := by kernel_rfl
theorem cb48 : callable Tryd.prog 48 = true := by kernel_rfl
theorem cb49 : callable Tryd.prog 49 = true := by kernel_rfl
theorem cb51 : callable Tryd.prog 51 = true := by kernel_rfl
theorem cb52 : callable Tryd.prog 52 = true := by kernel_rfl
theorem cb53 : callable Tryd.prog 53 = true := by kernel_rfl
theorem cb54 : callable Tryd.prog 54 = true := by kernel_rfl
theorem cb56 : callable Tryd.prog 56 = true := by kernel_rfl
theorem cb57 : callable Tryd.prog 57 = true := by kernel_rfl
theorem cb58 : callable Tryd.prog 58 = true := by kernel_rfl
theorem cb59 : callable Tryd.prog 59 = true := by kernel_rfl
theorem cb60 : callable Tryd.prog 60 = true := by kernel_rfl
theorem cb61 : callable Tryd.prog 61 = true := by kernel_rfl
theorem cb62 : callable Tryd.prog 62 = true := by kernel_rfl
theorem cb63 : callable Tryd.prog 63 = true := by kernel_rfl
theorem cb64 : callable Tryd.prog 64 = true := by kernel_rfl
theorem cb68 : callable Tryd.prog 68 = true := by kernel_rfl
theorem cb69 : callable Tryd.prog 69 = true := by kernel_rfl
theorem cb70 : callable Tryd.prog 70 = true := by kernel_rfl
end Go.Proofs.YtmomeejfopfchaaDoor
