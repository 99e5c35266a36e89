/- What the types of this seat's program are. Printed by a program of mine. -/
import Derived.Test.YtopdealfmajbhaaProg
import Derived.Test.YtopdealfmajbhaaV4
namespace Go.Proofs.Ytopdealfmajbhaa
open Go Go.Abs
theorem z2 (h : 2 < Try.prog.types.size) : (Try.prog.types[2]'h).size = 1 := by kernel_rfl
theorem i2 : intT Try.prog 2 = some .i64 := by kernel_rfl
theorem d2 (v : V) : (castV Try.prog 2 v).1 = ∃ n, v = .int .i64 n := rfl
theorem c2 (v : V) : (castV Try.prog 2 v).2 = .int .i64 (vi v) := rfl
theorem z3 (h : 3 < Try.prog.types.size) : (Try.prog.types[3]'h).size = 1 := by kernel_rfl
theorem i3 : intT Try.prog 3 = some .i64 := by kernel_rfl
theorem d3 (v : V) : (castV Try.prog 3 v).1 = ∃ n, v = .int .i64 n := rfl
theorem c3 (v : V) : (castV Try.prog 3 v).2 = .int .i64 (vi v) := rfl
theorem z4 (h : 4 < Try.prog.types.size) : (Try.prog.types[4]'h).size = 1 := by kernel_rfl
theorem d4 (v : V) : (castV Try.prog 4 v).1 = ∃ b, v = .bool b := rfl
theorem c4 (v : V) : (castV Try.prog 4 v).2 = .bool (vb v) := rfl
theorem z5 (h : 5 < Try.prog.types.size) : (Try.prog.types[5]'h).size = 1 := by kernel_rfl
theorem i5 : intT Try.prog 5 = some .u8 := by kernel_rfl
theorem d5 (v : V) : (castV Try.prog 5 v).1 = ∃ n, v = .int .u8 n := rfl
theorem c5 (v : V) : (castV Try.prog 5 v).2 = .int .u8 (vi v) := rfl
theorem z9 (h : 9 < Try.prog.types.size) : (Try.prog.types[9]'h).size = 1 := by kernel_rfl
theorem d9 (v : V) : (castV Try.prog 9 v).1 = ∃ s, v = .str s := rfl
theorem c9 (v : V) : (castV Try.prog 9 v).2 = .str (vst v) := rfl
theorem z12 (h : 12 < Try.prog.types.size) : (Try.prog.types[12]'h).size = 1 := by kernel_rfl
theorem i12 : intT Try.prog 12 = some .u64 := by kernel_rfl
theorem d12 (v : V) : (castV Try.prog 12 v).1 = ∃ n, v = .int .u64 n := rfl
theorem c12 (v : V) : (castV Try.prog 12 v).2 = .int .u64 (vi v) := rfl
theorem z17 (h : 17 < Try.prog.types.size) : (Try.prog.types[17]'h).size = 1 := by kernel_rfl
theorem z20 (h : 20 < Try.prog.types.size) : (Try.prog.types[20]'h).size = 1 := by kernel_rfl
theorem z21 (h : 21 < Try.prog.types.size) : (Try.prog.types[21]'h).size = 1 := by kernel_rfl
theorem i21 : intT Try.prog 21 = some .i32 := by kernel_rfl
theorem d21 (v : V) : (castV Try.prog 21 v).1 = ∃ n, v = .int .i32 n := rfl
theorem c21 (v : V) : (castV Try.prog 21 v).2 = .int .i32 (vi v) := rfl
theorem z22 (h : 22 < Try.prog.types.size) : (Try.prog.types[22]'h).size = 1 := by kernel_rfl
theorem d22 (v : V) : (castV Try.prog 22 v).1 = ∃ n cs, v = .view n 1 cs := rfl
theorem c22 (v : V) : (castV Try.prog 22 v).2 = .view (vn v) 1 (vcs v) := rfl
theorem z24 (h : 24 < Try.prog.types.size) : (Try.prog.types[24]'h).size = 16 := by kernel_rfl
theorem z25 (h : 25 < Try.prog.types.size) : (Try.prog.types[25]'h).size = 16 := by kernel_rfl
theorem z29 (h : 29 < Try.prog.types.size) : (Try.prog.types[29]'h).size = 1 := by kernel_rfl
theorem i29 : intT Try.prog 29 = some .u64 := by kernel_rfl
theorem d29 (v : V) : (castV Try.prog 29 v).1 = ∃ n, v = .int .u64 n := rfl
theorem c29 (v : V) : (castV Try.prog 29 v).2 = .int .u64 (vi v) := rfl
theorem z30 (h : 30 < Try.prog.types.size) : (Try.prog.types[30]'h).size = 19 := by kernel_rfl
theorem z31 (h : 31 < Try.prog.types.size) : (Try.prog.types[31]'h).size = 19 := by kernel_rfl
theorem z34 (h : 34 < Try.prog.types.size) : (Try.prog.types[34]'h).size = 1 := by kernel_rfl
theorem i34 : intT Try.prog 34 = some .u64 := by kernel_rfl
theorem d34 (v : V) : (castV Try.prog 34 v).1 = ∃ n, v = .int .u64 n := rfl
theorem c34 (v : V) : (castV Try.prog 34 v).2 = .int .u64 (vi v) := rfl
theorem z39 (h : 39 < Try.prog.types.size) : (Try.prog.types[39]'h).size = 2 := by kernel_rfl
theorem z40 (h : 40 < Try.prog.types.size) : (Try.prog.types[40]'h).size = 2 := by kernel_rfl
theorem z44 (h : 44 < Try.prog.types.size) : (Try.prog.types[44]'h).size = 1 := by kernel_rfl
theorem d44 (v : V) : (castV Try.prog 44 v).1 = ∃ n cs, v = .view n 19 cs := rfl
theorem c44 (v : V) : (castV Try.prog 44 v).2 = .view (vn v) 19 (vcs v) := rfl
theorem z47 (h : 47 < Try.prog.types.size) : (Try.prog.types[47]'h).size = 1 := by kernel_rfl
theorem d47 (v : V) : (castV Try.prog 47 v).1 = ∃ n cs, v = .view n 1 cs := rfl
theorem c47 (v : V) : (castV Try.prog 47 v).2 = .view (vn v) 1 (vcs v) := rfl
theorem z48 (h : 48 < Try.prog.types.size) : (Try.prog.types[48]'h).size = 1 := by kernel_rfl
theorem d48 (v : V) : (castV Try.prog 48 v).1 = ∃ n cs, v = .view n 16 cs := rfl
theorem c48 (v : V) : (castV Try.prog 48 v).2 = .view (vn v) 16 (vcs v) := rfl
theorem z49 (h : 49 < Try.prog.types.size) : (Try.prog.types[49]'h).size = 1 := by kernel_rfl
theorem i49 : intT Try.prog 49 = some .i64 := by kernel_rfl
theorem d49 (v : V) : (castV Try.prog 49 v).1 = ∃ n, v = .int .i64 n := rfl
theorem c49 (v : V) : (castV Try.prog 49 v).2 = .int .i64 (vi v) := rfl
theorem z61 (h : 61 < Try.prog.types.size) : (Try.prog.types[61]'h).size = 1 := by kernel_rfl
theorem d61 (v : V) : (castV Try.prog 61 v).1 = ∃ n cs, v = .view n 1 cs := rfl
theorem c61 (v : V) : (castV Try.prog 61 v).2 = .view (vn v) 1 (vcs v) := rfl
theorem z71 (h : 71 < Try.prog.types.size) : (Try.prog.types[71]'h).size = 1 := by kernel_rfl
theorem i71 : intT Try.prog 71 = some .u32 := by kernel_rfl
theorem d71 (v : V) : (castV Try.prog 71 v).1 = ∃ n, v = .int .u32 n := rfl
theorem c71 (v : V) : (castV Try.prog 71 v).2 = .int .u32 (vi v) := rfl
theorem z75 (h : 75 < Try.prog.types.size) : (Try.prog.types[75]'h).size = 1 := by kernel_rfl
/-- all of them, as rules for simp -/
theorem TY : (∀ h : 2 < Try.prog.types.size, (Try.prog.types[2]'h).size = 1) ∧
  (∀ v : V, (castV Try.prog 2 v).1 = ∃ n, v = .int .i64 n) ∧
  (∀ v : V, (castV Try.prog 2 v).2 = .int .i64 (vi v)) ∧
  (∀ h : 3 < Try.prog.types.size, (Try.prog.types[3]'h).size = 1) ∧
  (∀ v : V, (castV Try.prog 3 v).1 = ∃ n, v = .int .i64 n) ∧
  (∀ v : V, (castV Try.prog 3 v).2 = .int .i64 (vi v)) ∧
  (∀ h : 4 < Try.prog.types.size, (Try.prog.types[4]'h).size = 1) ∧
  (∀ v : V, (castV Try.prog 4 v).1 = ∃ b, v = .bool b) ∧
  (∀ v : V, (castV Try.prog 4 v).2 = .bool (vb v)) ∧
  (∀ h : 5 < Try.prog.types.size, (Try.prog.types[5]'h).size = 1) ∧
  (∀ v : V, (castV Try.prog 5 v).1 = ∃ n, v = .int .u8 n) ∧
  (∀ v : V, (castV Try.prog 5 v).2 = .int .u8 (vi v)) ∧
  (∀ h : 9 < Try.prog.types.size, (Try.prog.types[9]'h).size = 1) ∧
  (∀ v : V, (castV Try.prog 9 v).1 = ∃ s, v = .str s) ∧
  (∀ v : V, (castV Try.prog 9 v).2 = .str (vst v)) ∧
  (∀ h : 12 < Try.prog.types.size, (Try.prog.types[12]'h).size = 1) ∧
  (∀ v : V, (castV Try.prog 12 v).1 = ∃ n, v = .int .u64 n) ∧
  (∀ v : V, (castV Try.prog 12 v).2 = .int .u64 (vi v)) ∧
  (∀ h : 17 < Try.prog.types.size, (Try.prog.types[17]'h).size = 1) ∧
  (∀ h : 20 < Try.prog.types.size, (Try.prog.types[20]'h).size = 1) ∧
  (∀ h : 21 < Try.prog.types.size, (Try.prog.types[21]'h).size = 1) ∧
  (∀ v : V, (castV Try.prog 21 v).1 = ∃ n, v = .int .i32 n) ∧
  (∀ v : V, (castV Try.prog 21 v).2 = .int .i32 (vi v)) ∧
  (∀ h : 22 < Try.prog.types.size, (Try.prog.types[22]'h).size = 1) ∧
  (∀ v : V, (castV Try.prog 22 v).1 = ∃ n cs, v = .view n 1 cs) ∧
  (∀ v : V, (castV Try.prog 22 v).2 = .view (vn v) 1 (vcs v)) ∧
  (∀ h : 24 < Try.prog.types.size, (Try.prog.types[24]'h).size = 16) ∧
  (∀ h : 25 < Try.prog.types.size, (Try.prog.types[25]'h).size = 16) ∧
  (∀ h : 29 < Try.prog.types.size, (Try.prog.types[29]'h).size = 1) ∧
  (∀ v : V, (castV Try.prog 29 v).1 = ∃ n, v = .int .u64 n) ∧
  (∀ v : V, (castV Try.prog 29 v).2 = .int .u64 (vi v)) ∧
  (∀ h : 30 < Try.prog.types.size, (Try.prog.types[30]'h).size = 19) ∧
  (∀ h : 31 < Try.prog.types.size, (Try.prog.types[31]'h).size = 19) ∧
  (∀ h : 34 < Try.prog.types.size, (Try.prog.types[34]'h).size = 1) ∧
  (∀ v : V, (castV Try.prog 34 v).1 = ∃ n, v = .int .u64 n) ∧
  (∀ v : V, (castV Try.prog 34 v).2 = .int .u64 (vi v)) ∧
  (∀ h : 39 < Try.prog.types.size, (Try.prog.types[39]'h).size = 2) ∧
  (∀ h : 40 < Try.prog.types.size, (Try.prog.types[40]'h).size = 2) ∧
  (∀ h : 44 < Try.prog.types.size, (Try.prog.types[44]'h).size = 1) ∧
  (∀ v : V, (castV Try.prog 44 v).1 = ∃ n cs, v = .view n 19 cs) ∧
  (∀ v : V, (castV Try.prog 44 v).2 = .view (vn v) 19 (vcs v)) ∧
  (∀ h : 47 < Try.prog.types.size, (Try.prog.types[47]'h).size = 1) ∧
  (∀ v : V, (castV Try.prog 47 v).1 = ∃ n cs, v = .view n 1 cs) ∧
  (∀ v : V, (castV Try.prog 47 v).2 = .view (vn v) 1 (vcs v)) ∧
  (∀ h : 48 < Try.prog.types.size, (Try.prog.types[48]'h).size = 1) ∧
  (∀ v : V, (castV Try.prog 48 v).1 = ∃ n cs, v = .view n 16 cs) ∧
  (∀ v : V, (castV Try.prog 48 v).2 = .view (vn v) 16 (vcs v)) ∧
  (∀ h : 49 < Try.prog.types.size, (Try.prog.types[49]'h).size = 1) ∧
  (∀ v : V, (castV Try.prog 49 v).1 = ∃ n, v = .int .i64 n) ∧
  (∀ v : V, (castV Try.prog 49 v).2 = .int .i64 (vi v)) ∧
  (∀ h : 61 < Try.prog.types.size, (Try.prog.types[61]'h).size = 1) ∧
  (∀ v : V, (castV Try.prog 61 v).1 = ∃ n cs, v = .view n 1 cs) ∧
  (∀ v : V, (castV Try.prog 61 v).2 = .view (vn v) 1 (vcs v)) ∧
  (∀ h : 71 < Try.prog.types.size, (Try.prog.types[71]'h).size = 1) ∧
  (∀ v : V, (castV Try.prog 71 v).1 = ∃ n, v = .int .u32 n) ∧
  (∀ v : V, (castV Try.prog 71 v).2 = .int .u32 (vi v)) ∧
  (∀ h : 75 < Try.prog.types.size, (Try.prog.types[75]'h).size = 1) :=
  ⟨z2, d2, c2, z3, d3, c3, z4, d4, c4, z5, d5, c5, z9, d9, c9, z12, d12, c12, z17, z20, z21, d21, c21, z22, d22, c22, z24, z25, z29, d29, c29, z30, z31, z34, d34, c34, z39, z40, z44, d44, c44, z47, d47, c47, z48, d48, c48, z49, d49, c49, z61, d61, c61, z71, d71, c71, z75⟩
end Go.Proofs.Ytopdealfmajbhaa
