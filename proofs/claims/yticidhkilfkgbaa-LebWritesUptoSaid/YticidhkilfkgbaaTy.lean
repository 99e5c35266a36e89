/- What the types of this seat's program are. Printed by a program of mine. -/
import Derived.Test.YticidhkilfkgbaaProg
import Derived.Test.YticidhkilfkgbaaV4
namespace Go.Proofs.Yticidhkilfkgbaa
open Go Go.Abs
theorem z2 (h : 2 < Try.prog.types.size) : (Try.prog.types[2]'h).size = 1 := by kernel_rfl
theorem i2 : intT Try.prog 2 = some .i64 := by kernel_rfl
theorem d2 (v : V) : (castV Try.prog 2 v).1 = ∃ n, v = .int .i64 n := rfl
theorem c2 (v : V) : (castV Try.prog 2 v).2 = .int .i64 (vi v) := rfl
theorem z3 (h : 3 < Try.prog.types.size) : (Try.prog.types[3]'h).size = 1 := by kernel_rfl
theorem i3 : intT Try.prog 3 = some .i64 := by kernel_rfl
theorem d3 (v : V) : (castV Try.prog 3 v).1 = ∃ n, v = .int .i64 n := rfl
theorem c3 (v : V) : (castV Try.prog 3 v).2 = .int .i64 (vi v) := rfl
theorem z4 (h : 4 < Try.prog.types.size) : (Try.prog.types[4]'h).size = 1 := by kernel_rfl
theorem d4 (v : V) : (castV Try.prog 4 v).1 = ∃ b, v = .bool b := rfl
theorem c4 (v : V) : (castV Try.prog 4 v).2 = .bool (vb v) := rfl
theorem z5 (h : 5 < Try.prog.types.size) : (Try.prog.types[5]'h).size = 1 := by kernel_rfl
theorem i5 : intT Try.prog 5 = some .u8 := by kernel_rfl
theorem d5 (v : V) : (castV Try.prog 5 v).1 = ∃ n, v = .int .u8 n := rfl
theorem c5 (v : V) : (castV Try.prog 5 v).2 = .int .u8 (vi v) := rfl
theorem z9 (h : 9 < Try.prog.types.size) : (Try.prog.types[9]'h).size = 1 := by kernel_rfl
theorem d9 (v : V) : (castV Try.prog 9 v).1 = ∃ s, v = .str s := rfl
theorem c9 (v : V) : (castV Try.prog 9 v).2 = .str (vst v) := rfl
theorem z12 (h : 12 < Try.prog.types.size) : (Try.prog.types[12]'h).size = 1 := by kernel_rfl
theorem i12 : intT Try.prog 12 = some .u64 := by kernel_rfl
theorem d12 (v : V) : (castV Try.prog 12 v).1 = ∃ n, v = .int .u64 n := rfl
theorem c12 (v : V) : (castV Try.prog 12 v).2 = .int .u64 (vi v) := rfl
theorem z17 (h : 17 < Try.prog.types.size) : (Try.prog.types[17]'h).size = 1 := by kernel_rfl
theorem z20 (h : 20 < Try.prog.types.size) : (Try.prog.types[20]'h).size = 1 := by kernel_rfl
theorem z21 (h : 21 < Try.prog.types.size) : (Try.prog.types[21]'h).size = 1 := by kernel_rfl
theorem i21 : intT Try.prog 21 = some .i32 := by kernel_rfl
theorem d21 (v : V) : (castV Try.prog 21 v).1 = ∃ n, v = .int .i32 n := rfl
theorem c21 (v : V) : (castV Try.prog 21 v).2 = .int .i32 (vi v) := rfl
theorem z22 (h : 22 < Try.prog.types.size) : (Try.prog.types[22]'h).size = 1 := by kernel_rfl
theorem d22 (v : V) : (castV Try.prog 22 v).1 = ∃ n cs, v = .view n 1 cs := rfl
theorem c22 (v : V) : (castV Try.prog 22 v).2 = .view (vn v) 1 (vcs v) := rfl
theorem z24 (h : 24 < Try.prog.types.size) : (Try.prog.types[24]'h).size = 1 := by kernel_rfl
theorem i24 : intT Try.prog 24 = some .u64 := by kernel_rfl
theorem d24 (v : V) : (castV Try.prog 24 v).1 = ∃ n, v = .int .u64 n := rfl
theorem c24 (v : V) : (castV Try.prog 24 v).2 = .int .u64 (vi v) := rfl
theorem z25 (h : 25 < Try.prog.types.size) : (Try.prog.types[25]'h).size = 1 := by kernel_rfl
theorem i25 : intT Try.prog 25 = some .i64 := by kernel_rfl
theorem d25 (v : V) : (castV Try.prog 25 v).1 = ∃ n, v = .int .i64 n := rfl
theorem c25 (v : V) : (castV Try.prog 25 v).2 = .int .i64 (vi v) := rfl
theorem z31 (h : 31 < Try.prog.types.size) : (Try.prog.types[31]'h).size = 1 := by kernel_rfl
theorem d31 (v : V) : (castV Try.prog 31 v).1 = ∃ n cs, v = .view n 1 cs := rfl
theorem c31 (v : V) : (castV Try.prog 31 v).2 = .view (vn v) 1 (vcs v) := rfl
theorem z32 (h : 32 < Try.prog.types.size) : (Try.prog.types[32]'h).size = 1 := by kernel_rfl
theorem d32 (v : V) : (castV Try.prog 32 v).1 = ∃ n cs, v = .view n 1 cs := rfl
theorem c32 (v : V) : (castV Try.prog 32 v).2 = .view (vn v) 1 (vcs v) := rfl
theorem z41 (h : 41 < Try.prog.types.size) : (Try.prog.types[41]'h).size = 1 := by kernel_rfl
theorem i41 : intT Try.prog 41 = some .u64 := by kernel_rfl
theorem d41 (v : V) : (castV Try.prog 41 v).1 = ∃ n, v = .int .u64 n := rfl
theorem c41 (v : V) : (castV Try.prog 41 v).2 = .int .u64 (vi v) := rfl
theorem z43 (h : 43 < Try.prog.types.size) : (Try.prog.types[43]'h).size = 1 := by kernel_rfl
theorem i43 : intT Try.prog 43 = some .u32 := by kernel_rfl
theorem d43 (v : V) : (castV Try.prog 43 v).1 = ∃ n, v = .int .u32 n := rfl
theorem c43 (v : V) : (castV Try.prog 43 v).2 = .int .u32 (vi v) := rfl
theorem z46 (h : 46 < Try.prog.types.size) : (Try.prog.types[46]'h).size = 1 := by kernel_rfl
theorem d46 (v : V) : (castV Try.prog 46 v).1 = ∃ n cs, v = .view n 1 cs := rfl
theorem c46 (v : V) : (castV Try.prog 46 v).2 = .view (vn v) 1 (vcs v) := rfl
theorem z49 (h : 49 < Try.prog.types.size) : (Try.prog.types[49]'h).size = 1 := by kernel_rfl
theorem i49 : intT Try.prog 49 = some .i8 := by kernel_rfl
theorem d49 (v : V) : (castV Try.prog 49 v).1 = ∃ n, v = .int .i8 n := rfl
theorem c49 (v : V) : (castV Try.prog 49 v).2 = .int .i8 (vi v) := rfl
theorem z62 (h : 62 < Try.prog.types.size) : (Try.prog.types[62]'h).size = 1 := by kernel_rfl
/-- all of them, as rules for simp -/
theorem TY : (∀ h : 2 < Try.prog.types.size, (Try.prog.types[2]'h).size = 1) ∧
  (∀ v : V, (castV Try.prog 2 v).1 = ∃ n, v = .int .i64 n) ∧
  (∀ v : V, (castV Try.prog 2 v).2 = .int .i64 (vi v)) ∧
  (∀ h : 3 < Try.prog.types.size, (Try.prog.types[3]'h).size = 1) ∧
  (∀ v : V, (castV Try.prog 3 v).1 = ∃ n, v = .int .i64 n) ∧
  (∀ v : V, (castV Try.prog 3 v).2 = .int .i64 (vi v)) ∧
  (∀ h : 4 < Try.prog.types.size, (Try.prog.types[4]'h).size = 1) ∧
  (∀ v : V, (castV Try.prog 4 v).1 = ∃ b, v = .bool b) ∧
  (∀ v : V, (castV Try.prog 4 v).2 = .bool (vb v)) ∧
  (∀ h : 5 < Try.prog.types.size, (Try.prog.types[5]'h).size = 1) ∧
  (∀ v : V, (castV Try.prog 5 v).1 = ∃ n, v = .int .u8 n) ∧
  (∀ v : V, (castV Try.prog 5 v).2 = .int .u8 (vi v)) ∧
  (∀ h : 9 < Try.prog.types.size, (Try.prog.types[9]'h).size = 1) ∧
  (∀ v : V, (castV Try.prog 9 v).1 = ∃ s, v = .str s) ∧
  (∀ v : V, (castV Try.prog 9 v).2 = .str (vst v)) ∧
  (∀ h : 12 < Try.prog.types.size, (Try.prog.types[12]'h).size = 1) ∧
  (∀ v : V, (castV Try.prog 12 v).1 = ∃ n, v = .int .u64 n) ∧
  (∀ v : V, (castV Try.prog 12 v).2 = .int .u64 (vi v)) ∧
  (∀ h : 17 < Try.prog.types.size, (Try.prog.types[17]'h).size = 1) ∧
  (∀ h : 20 < Try.prog.types.size, (Try.prog.types[20]'h).size = 1) ∧
  (∀ h : 21 < Try.prog.types.size, (Try.prog.types[21]'h).size = 1) ∧
  (∀ v : V, (castV Try.prog 21 v).1 = ∃ n, v = .int .i32 n) ∧
  (∀ v : V, (castV Try.prog 21 v).2 = .int .i32 (vi v)) ∧
  (∀ h : 22 < Try.prog.types.size, (Try.prog.types[22]'h).size = 1) ∧
  (∀ v : V, (castV Try.prog 22 v).1 = ∃ n cs, v = .view n 1 cs) ∧
  (∀ v : V, (castV Try.prog 22 v).2 = .view (vn v) 1 (vcs v)) ∧
  (∀ h : 24 < Try.prog.types.size, (Try.prog.types[24]'h).size = 1) ∧
  (∀ v : V, (castV Try.prog 24 v).1 = ∃ n, v = .int .u64 n) ∧
  (∀ v : V, (castV Try.prog 24 v).2 = .int .u64 (vi v)) ∧
  (∀ h : 25 < Try.prog.types.size, (Try.prog.types[25]'h).size = 1) ∧
  (∀ v : V, (castV Try.prog 25 v).1 = ∃ n, v = .int .i64 n) ∧
  (∀ v : V, (castV Try.prog 25 v).2 = .int .i64 (vi v)) ∧
  (∀ h : 31 < Try.prog.types.size, (Try.prog.types[31]'h).size = 1) ∧
  (∀ v : V, (castV Try.prog 31 v).1 = ∃ n cs, v = .view n 1 cs) ∧
  (∀ v : V, (castV Try.prog 31 v).2 = .view (vn v) 1 (vcs v)) ∧
  (∀ h : 32 < Try.prog.types.size, (Try.prog.types[32]'h).size = 1) ∧
  (∀ v : V, (castV Try.prog 32 v).1 = ∃ n cs, v = .view n 1 cs) ∧
  (∀ v : V, (castV Try.prog 32 v).2 = .view (vn v) 1 (vcs v)) ∧
  (∀ h : 41 < Try.prog.types.size, (Try.prog.types[41]'h).size = 1) ∧
  (∀ v : V, (castV Try.prog 41 v).1 = ∃ n, v = .int .u64 n) ∧
  (∀ v : V, (castV Try.prog 41 v).2 = .int .u64 (vi v)) ∧
  (∀ h : 43 < Try.prog.types.size, (Try.prog.types[43]'h).size = 1) ∧
  (∀ v : V, (castV Try.prog 43 v).1 = ∃ n, v = .int .u32 n) ∧
  (∀ v : V, (castV Try.prog 43 v).2 = .int .u32 (vi v)) ∧
  (∀ h : 46 < Try.prog.types.size, (Try.prog.types[46]'h).size = 1) ∧
  (∀ v : V, (castV Try.prog 46 v).1 = ∃ n cs, v = .view n 1 cs) ∧
  (∀ v : V, (castV Try.prog 46 v).2 = .view (vn v) 1 (vcs v)) ∧
  (∀ h : 49 < Try.prog.types.size, (Try.prog.types[49]'h).size = 1) ∧
  (∀ v : V, (castV Try.prog 49 v).1 = ∃ n, v = .int .i8 n) ∧
  (∀ v : V, (castV Try.prog 49 v).2 = .int .i8 (vi v)) ∧
  (∀ h : 62 < Try.prog.types.size, (Try.prog.types[62]'h).size = 1) :=
  ⟨z2, d2, c2, z3, d3, c3, z4, d4, c4, z5, d5, c5, z9, d9, c9, z12, d12, c12, z17, z20, z21, d21, c21, z22, d22, c22, z24, d24, c24, z25, d25, c25, z31, d31, c31, z32, d32, c32, z41, d41, c41, z43, d43, c43, z46, d46, c46, z49, d49, c49, z62⟩
end Go.Proofs.Yticidhkilfkgbaa
