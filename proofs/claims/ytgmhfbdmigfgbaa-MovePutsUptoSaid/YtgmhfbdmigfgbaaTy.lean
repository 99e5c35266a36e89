/- What the types of this seat's program are. Printed by a program of mine. -/
import Derived.Test.YtgmhfbdmigfgbaaProg
import Derived.Test.YtgmhfbdmigfgbaaV4
namespace Go.Proofs.Ytgmhfbdmigfgbaa
open Go Go.Abs
theorem z2 (h : 2 < Try.prog.types.size) : (Try.prog.types[2]'h).size = 1 := by kernel_rfl
theorem i2 : intT Try.prog 2 = some .i64 := by kernel_rfl
theorem d2 (v : V) : (castV Try.prog 2 v).1 = ∃ n, v = .int .i64 n := rfl
theorem c2 (v : V) : (castV Try.prog 2 v).2 = .int .i64 (vi v) := rfl
theorem z3 (h : 3 < Try.prog.types.size) : (Try.prog.types[3]'h).size = 1 := by kernel_rfl
theorem i3 : intT Try.prog 3 = some .i64 := by kernel_rfl
theorem d3 (v : V) : (castV Try.prog 3 v).1 = ∃ n, v = .int .i64 n := rfl
theorem c3 (v : V) : (castV Try.prog 3 v).2 = .int .i64 (vi v) := rfl
theorem z4 (h : 4 < Try.prog.types.size) : (Try.prog.types[4]'h).size = 1 := by kernel_rfl
theorem d4 (v : V) : (castV Try.prog 4 v).1 = ∃ b, v = .bool b := rfl
theorem c4 (v : V) : (castV Try.prog 4 v).2 = .bool (vb v) := rfl
theorem z5 (h : 5 < Try.prog.types.size) : (Try.prog.types[5]'h).size = 1 := by kernel_rfl
theorem i5 : intT Try.prog 5 = some .u8 := by kernel_rfl
theorem d5 (v : V) : (castV Try.prog 5 v).1 = ∃ n, v = .int .u8 n := rfl
theorem c5 (v : V) : (castV Try.prog 5 v).2 = .int .u8 (vi v) := rfl
theorem z9 (h : 9 < Try.prog.types.size) : (Try.prog.types[9]'h).size = 1 := by kernel_rfl
theorem d9 (v : V) : (castV Try.prog 9 v).1 = ∃ s, v = .str s := rfl
theorem c9 (v : V) : (castV Try.prog 9 v).2 = .str (vst v) := rfl
theorem z12 (h : 12 < Try.prog.types.size) : (Try.prog.types[12]'h).size = 1 := by kernel_rfl
theorem i12 : intT Try.prog 12 = some .u64 := by kernel_rfl
theorem d12 (v : V) : (castV Try.prog 12 v).1 = ∃ n, v = .int .u64 n := rfl
theorem c12 (v : V) : (castV Try.prog 12 v).2 = .int .u64 (vi v) := rfl
theorem z17 (h : 17 < Try.prog.types.size) : (Try.prog.types[17]'h).size = 1 := by kernel_rfl
theorem z20 (h : 20 < Try.prog.types.size) : (Try.prog.types[20]'h).size = 1 := by kernel_rfl
theorem z21 (h : 21 < Try.prog.types.size) : (Try.prog.types[21]'h).size = 1 := by kernel_rfl
theorem i21 : intT Try.prog 21 = some .i32 := by kernel_rfl
theorem d21 (v : V) : (castV Try.prog 21 v).1 = ∃ n, v = .int .i32 n := rfl
theorem c21 (v : V) : (castV Try.prog 21 v).2 = .int .i32 (vi v) := rfl
theorem z22 (h : 22 < Try.prog.types.size) : (Try.prog.types[22]'h).size = 1 := by kernel_rfl
theorem i22 : intT Try.prog 22 = some .u64 := by kernel_rfl
theorem d22 (v : V) : (castV Try.prog 22 v).1 = ∃ n, v = .int .u64 n := rfl
theorem c22 (v : V) : (castV Try.prog 22 v).2 = .int .u64 (vi v) := rfl
theorem z23 (h : 23 < Try.prog.types.size) : (Try.prog.types[23]'h).size = 3 := by kernel_rfl
theorem z24 (h : 24 < Try.prog.types.size) : (Try.prog.types[24]'h).size = 3 := by kernel_rfl
theorem z25 (h : 25 < Try.prog.types.size) : (Try.prog.types[25]'h).size = 16 := by kernel_rfl
theorem z26 (h : 26 < Try.prog.types.size) : (Try.prog.types[26]'h).size = 16 := by kernel_rfl
theorem z28 (h : 28 < Try.prog.types.size) : (Try.prog.types[28]'h).size = 1 := by kernel_rfl
theorem i28 : intT Try.prog 28 = some .i64 := by kernel_rfl
theorem d28 (v : V) : (castV Try.prog 28 v).1 = ∃ n, v = .int .i64 n := rfl
theorem c28 (v : V) : (castV Try.prog 28 v).2 = .int .i64 (vi v) := rfl
theorem z39 (h : 39 < Try.prog.types.size) : (Try.prog.types[39]'h).size = 4 := by kernel_rfl
theorem z40 (h : 40 < Try.prog.types.size) : (Try.prog.types[40]'h).size = 1 := by kernel_rfl
theorem i40 : intT Try.prog 40 = some .u64 := by kernel_rfl
theorem d40 (v : V) : (castV Try.prog 40 v).1 = ∃ n, v = .int .u64 n := rfl
theorem c40 (v : V) : (castV Try.prog 40 v).2 = .int .u64 (vi v) := rfl
theorem z53 (h : 53 < Try.prog.types.size) : (Try.prog.types[53]'h).size = 1 := by kernel_rfl
theorem i53 : intT Try.prog 53 = some .u32 := by kernel_rfl
theorem d53 (v : V) : (castV Try.prog 53 v).1 = ∃ n, v = .int .u32 n := rfl
theorem c53 (v : V) : (castV Try.prog 53 v).2 = .int .u32 (vi v) := rfl
theorem z54 (h : 54 < Try.prog.types.size) : (Try.prog.types[54]'h).size = 32 := by kernel_rfl
theorem z55 (h : 55 < Try.prog.types.size) : (Try.prog.types[55]'h).size = 1 := by kernel_rfl
theorem d55 (v : V) : (castV Try.prog 55 v).1 = ∃ n cs, v = .view n 1 cs := rfl
theorem c55 (v : V) : (castV Try.prog 55 v).2 = .view (vn v) 1 (vcs v) := rfl
theorem z57 (h : 57 < Try.prog.types.size) : (Try.prog.types[57]'h).size = 1 := by kernel_rfl
theorem d57 (v : V) : (castV Try.prog 57 v).1 = ∃ n cs, v = .view n 1 cs := rfl
theorem c57 (v : V) : (castV Try.prog 57 v).2 = .view (vn v) 1 (vcs v) := rfl
theorem z69 (h : 69 < Try.prog.types.size) : (Try.prog.types[69]'h).size = 1 := by kernel_rfl
/-- all of them, as rules for simp -/
theorem TY : (∀ h : 2 < Try.prog.types.size, (Try.prog.types[2]'h).size = 1) ∧
  (∀ v : V, (castV Try.prog 2 v).1 = ∃ n, v = .int .i64 n) ∧
  (∀ v : V, (castV Try.prog 2 v).2 = .int .i64 (vi v)) ∧
  (∀ h : 3 < Try.prog.types.size, (Try.prog.types[3]'h).size = 1) ∧
  (∀ v : V, (castV Try.prog 3 v).1 = ∃ n, v = .int .i64 n) ∧
  (∀ v : V, (castV Try.prog 3 v).2 = .int .i64 (vi v)) ∧
  (∀ h : 4 < Try.prog.types.size, (Try.prog.types[4]'h).size = 1) ∧
  (∀ v : V, (castV Try.prog 4 v).1 = ∃ b, v = .bool b) ∧
  (∀ v : V, (castV Try.prog 4 v).2 = .bool (vb v)) ∧
  (∀ h : 5 < Try.prog.types.size, (Try.prog.types[5]'h).size = 1) ∧
  (∀ v : V, (castV Try.prog 5 v).1 = ∃ n, v = .int .u8 n) ∧
  (∀ v : V, (castV Try.prog 5 v).2 = .int .u8 (vi v)) ∧
  (∀ h : 9 < Try.prog.types.size, (Try.prog.types[9]'h).size = 1) ∧
  (∀ v : V, (castV Try.prog 9 v).1 = ∃ s, v = .str s) ∧
  (∀ v : V, (castV Try.prog 9 v).2 = .str (vst v)) ∧
  (∀ h : 12 < Try.prog.types.size, (Try.prog.types[12]'h).size = 1) ∧
  (∀ v : V, (castV Try.prog 12 v).1 = ∃ n, v = .int .u64 n) ∧
  (∀ v : V, (castV Try.prog 12 v).2 = .int .u64 (vi v)) ∧
  (∀ h : 17 < Try.prog.types.size, (Try.prog.types[17]'h).size = 1) ∧
  (∀ h : 20 < Try.prog.types.size, (Try.prog.types[20]'h).size = 1) ∧
  (∀ h : 21 < Try.prog.types.size, (Try.prog.types[21]'h).size = 1) ∧
  (∀ v : V, (castV Try.prog 21 v).1 = ∃ n, v = .int .i32 n) ∧
  (∀ v : V, (castV Try.prog 21 v).2 = .int .i32 (vi v)) ∧
  (∀ h : 22 < Try.prog.types.size, (Try.prog.types[22]'h).size = 1) ∧
  (∀ v : V, (castV Try.prog 22 v).1 = ∃ n, v = .int .u64 n) ∧
  (∀ v : V, (castV Try.prog 22 v).2 = .int .u64 (vi v)) ∧
  (∀ h : 23 < Try.prog.types.size, (Try.prog.types[23]'h).size = 3) ∧
  (∀ h : 24 < Try.prog.types.size, (Try.prog.types[24]'h).size = 3) ∧
  (∀ h : 25 < Try.prog.types.size, (Try.prog.types[25]'h).size = 16) ∧
  (∀ h : 26 < Try.prog.types.size, (Try.prog.types[26]'h).size = 16) ∧
  (∀ h : 28 < Try.prog.types.size, (Try.prog.types[28]'h).size = 1) ∧
  (∀ v : V, (castV Try.prog 28 v).1 = ∃ n, v = .int .i64 n) ∧
  (∀ v : V, (castV Try.prog 28 v).2 = .int .i64 (vi v)) ∧
  (∀ h : 39 < Try.prog.types.size, (Try.prog.types[39]'h).size = 4) ∧
  (∀ h : 40 < Try.prog.types.size, (Try.prog.types[40]'h).size = 1) ∧
  (∀ v : V, (castV Try.prog 40 v).1 = ∃ n, v = .int .u64 n) ∧
  (∀ v : V, (castV Try.prog 40 v).2 = .int .u64 (vi v)) ∧
  (∀ h : 53 < Try.prog.types.size, (Try.prog.types[53]'h).size = 1) ∧
  (∀ v : V, (castV Try.prog 53 v).1 = ∃ n, v = .int .u32 n) ∧
  (∀ v : V, (castV Try.prog 53 v).2 = .int .u32 (vi v)) ∧
  (∀ h : 54 < Try.prog.types.size, (Try.prog.types[54]'h).size = 32) ∧
  (∀ h : 55 < Try.prog.types.size, (Try.prog.types[55]'h).size = 1) ∧
  (∀ v : V, (castV Try.prog 55 v).1 = ∃ n cs, v = .view n 1 cs) ∧
  (∀ v : V, (castV Try.prog 55 v).2 = .view (vn v) 1 (vcs v)) ∧
  (∀ h : 57 < Try.prog.types.size, (Try.prog.types[57]'h).size = 1) ∧
  (∀ v : V, (castV Try.prog 57 v).1 = ∃ n cs, v = .view n 1 cs) ∧
  (∀ v : V, (castV Try.prog 57 v).2 = .view (vn v) 1 (vcs v)) ∧
  (∀ h : 69 < Try.prog.types.size, (Try.prog.types[69]'h).size = 1) :=
  ⟨z2, d2, c2, z3, d3, c3, z4, d4, c4, z5, d5, c5, z9, d9, c9, z12, d12, c12, z17, z20, z21, d21, c21, z22, d22, c22, z23, z24, z25, z26, z28, d28, c28, z39, z40, d40, c40, z53, d53, c53, z54, z55, d55, c55, z57, d57, c57, z69⟩
end Go.Proofs.Ytgmhfbdmigfgbaa
