/- What the types of this seat's program are. Printed by a program of mine. -/
import Derived.Test.YtmoalocogccnbaaProg
import Derived.Test.YtmoalocogccnbaaV4
namespace Go.Proofs.Ytmoalocogccnbaa
open Go Go.Abs
theorem z2 (h : 2 < Try.prog.types.size) : (Try.prog.types[2]'h).size = 1 := by kernel_rfl
theorem i2 : intT Try.prog 2 = some .i64 := by kernel_rfl
theorem d2 (v : V) : (castV Try.prog 2 v).1 = ∃ n, v = .int .i64 n := rfl
theorem c2 (v : V) : (castV Try.prog 2 v).2 = .int .i64 (vi v) := rfl
theorem z3 (h : 3 < Try.prog.types.size) : (Try.prog.types[3]'h).size = 1 := by kernel_rfl
theorem i3 : intT Try.prog 3 = some .i64 := by kernel_rfl
theorem d3 (v : V) : (castV Try.prog 3 v).1 = ∃ n, v = .int .i64 n := rfl
theorem c3 (v : V) : (castV Try.prog 3 v).2 = .int .i64 (vi v) := rfl
theorem z4 (h : 4 < Try.prog.types.size) : (Try.prog.types[4]'h).size = 1 := by kernel_rfl
theorem d4 (v : V) : (castV Try.prog 4 v).1 = ∃ b, v = .bool b := rfl
theorem c4 (v : V) : (castV Try.prog 4 v).2 = .bool (vb v) := rfl
theorem z5 (h : 5 < Try.prog.types.size) : (Try.prog.types[5]'h).size = 1 := by kernel_rfl
theorem i5 : intT Try.prog 5 = some .u8 := by kernel_rfl
theorem d5 (v : V) : (castV Try.prog 5 v).1 = ∃ n, v = .int .u8 n := rfl
theorem c5 (v : V) : (castV Try.prog 5 v).2 = .int .u8 (vi v) := rfl
theorem z9 (h : 9 < Try.prog.types.size) : (Try.prog.types[9]'h).size = 1 := by kernel_rfl
theorem d9 (v : V) : (castV Try.prog 9 v).1 = ∃ s, v = .str s := rfl
theorem c9 (v : V) : (castV Try.prog 9 v).2 = .str (vst v) := rfl
theorem z12 (h : 12 < Try.prog.types.size) : (Try.prog.types[12]'h).size = 1 := by kernel_rfl
theorem i12 : intT Try.prog 12 = some .u64 := by kernel_rfl
theorem d12 (v : V) : (castV Try.prog 12 v).1 = ∃ n, v = .int .u64 n := rfl
theorem c12 (v : V) : (castV Try.prog 12 v).2 = .int .u64 (vi v) := rfl
theorem z17 (h : 17 < Try.prog.types.size) : (Try.prog.types[17]'h).size = 1 := by kernel_rfl
theorem z20 (h : 20 < Try.prog.types.size) : (Try.prog.types[20]'h).size = 1 := by kernel_rfl
theorem z21 (h : 21 < Try.prog.types.size) : (Try.prog.types[21]'h).size = 1 := by kernel_rfl
theorem i21 : intT Try.prog 21 = some .i32 := by kernel_rfl
theorem d21 (v : V) : (castV Try.prog 21 v).1 = ∃ n, v = .int .i32 n := rfl
theorem c21 (v : V) : (castV Try.prog 21 v).2 = .int .i32 (vi v) := rfl
theorem z23 (h : 23 < Try.prog.types.size) : (Try.prog.types[23]'h).size = 1 := by kernel_rfl
theorem i23 : intT Try.prog 23 = some .u64 := by kernel_rfl
theorem d23 (v : V) : (castV Try.prog 23 v).1 = ∃ n, v = .int .u64 n := rfl
theorem c23 (v : V) : (castV Try.prog 23 v).2 = .int .u64 (vi v) := rfl
theorem z25 (h : 25 < Try.prog.types.size) : (Try.prog.types[25]'h).size = 1 := by kernel_rfl
theorem d25 (v : V) : (castV Try.prog 25 v).1 = ∃ n cs, v = .view n 1 cs := rfl
theorem c25 (v : V) : (castV Try.prog 25 v).2 = .view (vn v) 1 (vcs v) := rfl
theorem z26 (h : 26 < Try.prog.types.size) : (Try.prog.types[26]'h).size = 5 := by kernel_rfl
theorem z27 (h : 27 < Try.prog.types.size) : (Try.prog.types[27]'h).size = 5 := by kernel_rfl
theorem z33 (h : 33 < Try.prog.types.size) : (Try.prog.types[33]'h).size = 1 := by kernel_rfl
theorem d33 (v : V) : (castV Try.prog 33 v).1 = ∃ n cs, v = .view n 5 cs := rfl
theorem c33 (v : V) : (castV Try.prog 33 v).2 = .view (vn v) 5 (vcs v) := rfl
theorem z35 (h : 35 < Try.prog.types.size) : (Try.prog.types[35]'h).size = 5 := by kernel_rfl
theorem z36 (h : 36 < Try.prog.types.size) : (Try.prog.types[36]'h).size = 5 := by kernel_rfl
theorem z37 (h : 37 < Try.prog.types.size) : (Try.prog.types[37]'h).size = 1 := by kernel_rfl
theorem d37 (v : V) : (castV Try.prog 37 v).1 = ∃ n cs, v = .view n 1 cs := rfl
theorem c37 (v : V) : (castV Try.prog 37 v).2 = .view (vn v) 1 (vcs v) := rfl
theorem z39 (h : 39 < Try.prog.types.size) : (Try.prog.types[39]'h).size = 1 := by kernel_rfl
theorem d39 (v : V) : (castV Try.prog 39 v).1 = ∃ n cs, v = .view n 1 cs := rfl
theorem c39 (v : V) : (castV Try.prog 39 v).2 = .view (vn v) 1 (vcs v) := rfl
theorem z51 (h : 51 < Try.prog.types.size) : (Try.prog.types[51]'h).size = 1 := by kernel_rfl
theorem i51 : intT Try.prog 51 = some .u32 := by kernel_rfl
theorem d51 (v : V) : (castV Try.prog 51 v).1 = ∃ n, v = .int .u32 n := rfl
theorem c51 (v : V) : (castV Try.prog 51 v).2 = .int .u32 (vi v) := rfl
theorem z55 (h : 55 < Try.prog.types.size) : (Try.prog.types[55]'h).size = 1 := by kernel_rfl
/-- all of them, as rules for simp -/
theorem TY : (∀ h : 2 < Try.prog.types.size, (Try.prog.types[2]'h).size = 1) ∧
  (∀ v : V, (castV Try.prog 2 v).1 = ∃ n, v = .int .i64 n) ∧
  (∀ v : V, (castV Try.prog 2 v).2 = .int .i64 (vi v)) ∧
  (∀ h : 3 < Try.prog.types.size, (Try.prog.types[3]'h).size = 1) ∧
  (∀ v : V, (castV Try.prog 3 v).1 = ∃ n, v = .int .i64 n) ∧
  (∀ v : V, (castV Try.prog 3 v).2 = .int .i64 (vi v)) ∧
  (∀ h : 4 < Try.prog.types.size, (Try.prog.types[4]'h).size = 1) ∧
  (∀ v : V, (castV Try.prog 4 v).1 = ∃ b, v = .bool b) ∧
  (∀ v : V, (castV Try.prog 4 v).2 = .bool (vb v)) ∧
  (∀ h : 5 < Try.prog.types.size, (Try.prog.types[5]'h).size = 1) ∧
  (∀ v : V, (castV Try.prog 5 v).1 = ∃ n, v = .int .u8 n) ∧
  (∀ v : V, (castV Try.prog 5 v).2 = .int .u8 (vi v)) ∧
  (∀ h : 9 < Try.prog.types.size, (Try.prog.types[9]'h).size = 1) ∧
  (∀ v : V, (castV Try.prog 9 v).1 = ∃ s, v = .str s) ∧
  (∀ v : V, (castV Try.prog 9 v).2 = .str (vst v)) ∧
  (∀ h : 12 < Try.prog.types.size, (Try.prog.types[12]'h).size = 1) ∧
  (∀ v : V, (castV Try.prog 12 v).1 = ∃ n, v = .int .u64 n) ∧
  (∀ v : V, (castV Try.prog 12 v).2 = .int .u64 (vi v)) ∧
  (∀ h : 17 < Try.prog.types.size, (Try.prog.types[17]'h).size = 1) ∧
  (∀ h : 20 < Try.prog.types.size, (Try.prog.types[20]'h).size = 1) ∧
  (∀ h : 21 < Try.prog.types.size, (Try.prog.types[21]'h).size = 1) ∧
  (∀ v : V, (castV Try.prog 21 v).1 = ∃ n, v = .int .i32 n) ∧
  (∀ v : V, (castV Try.prog 21 v).2 = .int .i32 (vi v)) ∧
  (∀ h : 23 < Try.prog.types.size, (Try.prog.types[23]'h).size = 1) ∧
  (∀ v : V, (castV Try.prog 23 v).1 = ∃ n, v = .int .u64 n) ∧
  (∀ v : V, (castV Try.prog 23 v).2 = .int .u64 (vi v)) ∧
  (∀ h : 25 < Try.prog.types.size, (Try.prog.types[25]'h).size = 1) ∧
  (∀ v : V, (castV Try.prog 25 v).1 = ∃ n cs, v = .view n 1 cs) ∧
  (∀ v : V, (castV Try.prog 25 v).2 = .view (vn v) 1 (vcs v)) ∧
  (∀ h : 26 < Try.prog.types.size, (Try.prog.types[26]'h).size = 5) ∧
  (∀ h : 27 < Try.prog.types.size, (Try.prog.types[27]'h).size = 5) ∧
  (∀ h : 33 < Try.prog.types.size, (Try.prog.types[33]'h).size = 1) ∧
  (∀ v : V, (castV Try.prog 33 v).1 = ∃ n cs, v = .view n 5 cs) ∧
  (∀ v : V, (castV Try.prog 33 v).2 = .view (vn v) 5 (vcs v)) ∧
  (∀ h : 35 < Try.prog.types.size, (Try.prog.types[35]'h).size = 5) ∧
  (∀ h : 36 < Try.prog.types.size, (Try.prog.types[36]'h).size = 5) ∧
  (∀ h : 37 < Try.prog.types.size, (Try.prog.types[37]'h).size = 1) ∧
  (∀ v : V, (castV Try.prog 37 v).1 = ∃ n cs, v = .view n 1 cs) ∧
  (∀ v : V, (castV Try.prog 37 v).2 = .view (vn v) 1 (vcs v)) ∧
  (∀ h : 39 < Try.prog.types.size, (Try.prog.types[39]'h).size = 1) ∧
  (∀ v : V, (castV Try.prog 39 v).1 = ∃ n cs, v = .view n 1 cs) ∧
  (∀ v : V, (castV Try.prog 39 v).2 = .view (vn v) 1 (vcs v)) ∧
  (∀ h : 51 < Try.prog.types.size, (Try.prog.types[51]'h).size = 1) ∧
  (∀ v : V, (castV Try.prog 51 v).1 = ∃ n, v = .int .u32 n) ∧
  (∀ v : V, (castV Try.prog 51 v).2 = .int .u32 (vi v)) ∧
  (∀ h : 55 < Try.prog.types.size, (Try.prog.types[55]'h).size = 1) :=
  ⟨z2, d2, c2, z3, d3, c3, z4, d4, c4, z5, d5, c5, z9, d9, c9, z12, d12, c12, z17, z20, z21, d21, c21, z23, d23, c23, z25, d25, c25, z26, z27, z33, d33, c33, z35, z36, z37, d37, c37, z39, d39, c39, z51, d51, c51, z55⟩
end Go.Proofs.Ytmoalocogccnbaa
