/- What the types of this seat's program are. Printed by a program of mine. -/
import Derived.Test.YtbnkjbdbcckcmaaProg
import Derived.Test.YtbnkjbdbcckcmaaV4
namespace Go.Proofs.Ytbnkjbdbcckcmaa
open Go Go.Abs
theorem z2 (h : 2 < Try.prog.types.size) : (Try.prog.types[2]'h).size = 1 := by kernel_rfl
theorem i2 : intT Try.prog 2 = some .i64 := by kernel_rfl
theorem d2 (v : V) : (castV Try.prog 2 v).1 = ∃ n, v = .int .i64 n := rfl
theorem c2 (v : V) : (castV Try.prog 2 v).2 = .int .i64 (vi v) := rfl
theorem z3 (h : 3 < Try.prog.types.size) : (Try.prog.types[3]'h).size = 1 := by kernel_rfl
theorem i3 : intT Try.prog 3 = some .i64 := by kernel_rfl
theorem d3 (v : V) : (castV Try.prog 3 v).1 = ∃ n, v = .int .i64 n := rfl
theorem c3 (v : V) : (castV Try.prog 3 v).2 = .int .i64 (vi v) := rfl
theorem z4 (h : 4 < Try.prog.types.size) : (Try.prog.types[4]'h).size = 1 := by kernel_rfl
theorem d4 (v : V) : (castV Try.prog 4 v).1 = ∃ b, v = .bool b := rfl
theorem c4 (v : V) : (castV Try.prog 4 v).2 = .bool (vb v) := rfl
theorem z5 (h : 5 < Try.prog.types.size) : (Try.prog.types[5]'h).size = 1 := by kernel_rfl
theorem i5 : intT Try.prog 5 = some .u8 := by kernel_rfl
theorem d5 (v : V) : (castV Try.prog 5 v).1 = ∃ n, v = .int .u8 n := rfl
theorem c5 (v : V) : (castV Try.prog 5 v).2 = .int .u8 (vi v) := rfl
theorem z9 (h : 9 < Try.prog.types.size) : (Try.prog.types[9]'h).size = 1 := by kernel_rfl
theorem d9 (v : V) : (castV Try.prog 9 v).1 = ∃ s, v = .str s := rfl
theorem c9 (v : V) : (castV Try.prog 9 v).2 = .str (vst v) := rfl
theorem z12 (h : 12 < Try.prog.types.size) : (Try.prog.types[12]'h).size = 1 := by kernel_rfl
theorem i12 : intT Try.prog 12 = some .u64 := by kernel_rfl
theorem d12 (v : V) : (castV Try.prog 12 v).1 = ∃ n, v = .int .u64 n := rfl
theorem c12 (v : V) : (castV Try.prog 12 v).2 = .int .u64 (vi v) := rfl
theorem z17 (h : 17 < Try.prog.types.size) : (Try.prog.types[17]'h).size = 1 := by kernel_rfl
theorem z20 (h : 20 < Try.prog.types.size) : (Try.prog.types[20]'h).size = 1 := by kernel_rfl
theorem z21 (h : 21 < Try.prog.types.size) : (Try.prog.types[21]'h).size = 1 := by kernel_rfl
theorem i21 : intT Try.prog 21 = some .i32 := by kernel_rfl
theorem d21 (v : V) : (castV Try.prog 21 v).1 = ∃ n, v = .int .i32 n := rfl
theorem c21 (v : V) : (castV Try.prog 21 v).2 = .int .i32 (vi v) := rfl
theorem z22 (h : 22 < Try.prog.types.size) : (Try.prog.types[22]'h).size = 1 := by kernel_rfl
theorem d22 (v : V) : (castV Try.prog 22 v).1 = ∃ n cs, v = .view n 1 cs := rfl
theorem c22 (v : V) : (castV Try.prog 22 v).2 = .view (vn v) 1 (vcs v) := rfl
theorem z23 (h : 23 < Try.prog.types.size) : (Try.prog.types[23]'h).size = 1 := by kernel_rfl
theorem d23 (v : V) : (castV Try.prog 23 v).1 = ∃ n cs, v = .view n 1 cs := rfl
theorem c23 (v : V) : (castV Try.prog 23 v).2 = .view (vn v) 1 (vcs v) := rfl
theorem z25 (h : 25 < Try.prog.types.size) : (Try.prog.types[25]'h).size = 1 := by kernel_rfl
theorem z27 (h : 27 < Try.prog.types.size) : (Try.prog.types[27]'h).size = 1 := by kernel_rfl
theorem d27 (v : V) : (castV Try.prog 27 v).1 = ∃ n cs, v = .view n 1 cs := rfl
theorem c27 (v : V) : (castV Try.prog 27 v).2 = .view (vn v) 1 (vcs v) := rfl
theorem z28 (h : 28 < Try.prog.types.size) : (Try.prog.types[28]'h).size = 2 := by kernel_rfl
theorem z29 (h : 29 < Try.prog.types.size) : (Try.prog.types[29]'h).size = 2 := by kernel_rfl
theorem z30 (h : 30 < Try.prog.types.size) : (Try.prog.types[30]'h).size = 1 := by kernel_rfl
theorem i30 : intT Try.prog 30 = some .i64 := by kernel_rfl
theorem d30 (v : V) : (castV Try.prog 30 v).1 = ∃ n, v = .int .i64 n := rfl
theorem c30 (v : V) : (castV Try.prog 30 v).2 = .int .i64 (vi v) := rfl
theorem z33 (h : 33 < Try.prog.types.size) : (Try.prog.types[33]'h).size = 3 := by kernel_rfl
theorem z34 (h : 34 < Try.prog.types.size) : (Try.prog.types[34]'h).size = 3 := by kernel_rfl
theorem z35 (h : 35 < Try.prog.types.size) : (Try.prog.types[35]'h).size = 1 := by kernel_rfl
theorem i35 : intT Try.prog 35 = some .u64 := by kernel_rfl
theorem d35 (v : V) : (castV Try.prog 35 v).1 = ∃ n, v = .int .u64 n := rfl
theorem c35 (v : V) : (castV Try.prog 35 v).2 = .int .u64 (vi v) := rfl
theorem z36 (h : 36 < Try.prog.types.size) : (Try.prog.types[36]'h).size = 1 := by kernel_rfl
theorem d36 (v : V) : (castV Try.prog 36 v).1 = ∃ n cs, v = .view n 2 cs := rfl
theorem c36 (v : V) : (castV Try.prog 36 v).2 = .view (vn v) 2 (vcs v) := rfl
theorem z38 (h : 38 < Try.prog.types.size) : (Try.prog.types[38]'h).size = 2 := by kernel_rfl
theorem z39 (h : 39 < Try.prog.types.size) : (Try.prog.types[39]'h).size = 2 := by kernel_rfl
theorem z42 (h : 42 < Try.prog.types.size) : (Try.prog.types[42]'h).size = 1 := by kernel_rfl
theorem i42 : intT Try.prog 42 = some .u32 := by kernel_rfl
theorem d42 (v : V) : (castV Try.prog 42 v).1 = ∃ n, v = .int .u32 n := rfl
theorem c42 (v : V) : (castV Try.prog 42 v).2 = .int .u32 (vi v) := rfl
theorem z50 (h : 50 < Try.prog.types.size) : (Try.prog.types[50]'h).size = 1 := by kernel_rfl
theorem d50 (v : V) : (castV Try.prog 50 v).1 = ∃ n cs, v = .view n 9 cs := rfl
theorem c50 (v : V) : (castV Try.prog 50 v).2 = .view (vn v) 9 (vcs v) := rfl
theorem z51 (h : 51 < Try.prog.types.size) : (Try.prog.types[51]'h).size = 3 := by kernel_rfl
theorem z52 (h : 52 < Try.prog.types.size) : (Try.prog.types[52]'h).size = 1 := by kernel_rfl
theorem z54 (h : 54 < Try.prog.types.size) : (Try.prog.types[54]'h).size = 3 := by kernel_rfl
theorem z55 (h : 55 < Try.prog.types.size) : (Try.prog.types[55]'h).size = 9 := by kernel_rfl
theorem z56 (h : 56 < Try.prog.types.size) : (Try.prog.types[56]'h).size = 9 := by kernel_rfl
theorem z57 (h : 57 < Try.prog.types.size) : (Try.prog.types[57]'h).size = 1 := by kernel_rfl
theorem i57 : intT Try.prog 57 = some .u64 := by kernel_rfl
theorem d57 (v : V) : (castV Try.prog 57 v).1 = ∃ n, v = .int .u64 n := rfl
theorem c57 (v : V) : (castV Try.prog 57 v).2 = .int .u64 (vi v) := rfl
theorem z63 (h : 63 < Try.prog.types.size) : (Try.prog.types[63]'h).size = 3 := by kernel_rfl
theorem z64 (h : 64 < Try.prog.types.size) : (Try.prog.types[64]'h).size = 3 := by kernel_rfl
theorem z65 (h : 65 < Try.prog.types.size) : (Try.prog.types[65]'h).size = 1 := by kernel_rfl
theorem d65 (v : V) : (castV Try.prog 65 v).1 = ∃ n cs, v = .view n 16 cs := rfl
theorem c65 (v : V) : (castV Try.prog 65 v).2 = .view (vn v) 16 (vcs v) := rfl
theorem z70 (h : 70 < Try.prog.types.size) : (Try.prog.types[70]'h).size = 4 := by kernel_rfl
theorem z71 (h : 71 < Try.prog.types.size) : (Try.prog.types[71]'h).size = 4 := by kernel_rfl
theorem z74 (h : 74 < Try.prog.types.size) : (Try.prog.types[74]'h).size = 2 := by kernel_rfl
theorem z75 (h : 75 < Try.prog.types.size) : (Try.prog.types[75]'h).size = 2 := by kernel_rfl
theorem z76 (h : 76 < Try.prog.types.size) : (Try.prog.types[76]'h).size = 16 := by kernel_rfl
theorem z77 (h : 77 < Try.prog.types.size) : (Try.prog.types[77]'h).size = 16 := by kernel_rfl
theorem z96 (h : 96 < Try.prog.types.size) : (Try.prog.types[96]'h).size = 1 := by kernel_rfl
/-- all of them, as rules for simp -/
theorem TY : (∀ h : 2 < Try.prog.types.size, (Try.prog.types[2]'h).size = 1) ∧
  (∀ v : V, (castV Try.prog 2 v).1 = ∃ n, v = .int .i64 n) ∧
  (∀ v : V, (castV Try.prog 2 v).2 = .int .i64 (vi v)) ∧
  (∀ h : 3 < Try.prog.types.size, (Try.prog.types[3]'h).size = 1) ∧
  (∀ v : V, (castV Try.prog 3 v).1 = ∃ n, v = .int .i64 n) ∧
  (∀ v : V, (castV Try.prog 3 v).2 = .int .i64 (vi v)) ∧
  (∀ h : 4 < Try.prog.types.size, (Try.prog.types[4]'h).size = 1) ∧
  (∀ v : V, (castV Try.prog 4 v).1 = ∃ b, v = .bool b) ∧
  (∀ v : V, (castV Try.prog 4 v).2 = .bool (vb v)) ∧
  (∀ h : 5 < Try.prog.types.size, (Try.prog.types[5]'h).size = 1) ∧
  (∀ v : V, (castV Try.prog 5 v).1 = ∃ n, v = .int .u8 n) ∧
  (∀ v : V, (castV Try.prog 5 v).2 = .int .u8 (vi v)) ∧
  (∀ h : 9 < Try.prog.types.size, (Try.prog.types[9]'h).size = 1) ∧
  (∀ v : V, (castV Try.prog 9 v).1 = ∃ s, v = .str s) ∧
  (∀ v : V, (castV Try.prog 9 v).2 = .str (vst v)) ∧
  (∀ h : 12 < Try.prog.types.size, (Try.prog.types[12]'h).size = 1) ∧
  (∀ v : V, (castV Try.prog 12 v).1 = ∃ n, v = .int .u64 n) ∧
  (∀ v : V, (castV Try.prog 12 v).2 = .int .u64 (vi v)) ∧
  (∀ h : 17 < Try.prog.types.size, (Try.prog.types[17]'h).size = 1) ∧
  (∀ h : 20 < Try.prog.types.size, (Try.prog.types[20]'h).size = 1) ∧
  (∀ h : 21 < Try.prog.types.size, (Try.prog.types[21]'h).size = 1) ∧
  (∀ v : V, (castV Try.prog 21 v).1 = ∃ n, v = .int .i32 n) ∧
  (∀ v : V, (castV Try.prog 21 v).2 = .int .i32 (vi v)) ∧
  (∀ h : 22 < Try.prog.types.size, (Try.prog.types[22]'h).size = 1) ∧
  (∀ v : V, (castV Try.prog 22 v).1 = ∃ n cs, v = .view n 1 cs) ∧
  (∀ v : V, (castV Try.prog 22 v).2 = .view (vn v) 1 (vcs v)) ∧
  (∀ h : 23 < Try.prog.types.size, (Try.prog.types[23]'h).size = 1) ∧
  (∀ v : V, (castV Try.prog 23 v).1 = ∃ n cs, v = .view n 1 cs) ∧
  (∀ v : V, (castV Try.prog 23 v).2 = .view (vn v) 1 (vcs v)) ∧
  (∀ h : 25 < Try.prog.types.size, (Try.prog.types[25]'h).size = 1) ∧
  (∀ h : 27 < Try.prog.types.size, (Try.prog.types[27]'h).size = 1) ∧
  (∀ v : V, (castV Try.prog 27 v).1 = ∃ n cs, v = .view n 1 cs) ∧
  (∀ v : V, (castV Try.prog 27 v).2 = .view (vn v) 1 (vcs v)) ∧
  (∀ h : 28 < Try.prog.types.size, (Try.prog.types[28]'h).size = 2) ∧
  (∀ h : 29 < Try.prog.types.size, (Try.prog.types[29]'h).size = 2) ∧
  (∀ h : 30 < Try.prog.types.size, (Try.prog.types[30]'h).size = 1) ∧
  (∀ v : V, (castV Try.prog 30 v).1 = ∃ n, v = .int .i64 n) ∧
  (∀ v : V, (castV Try.prog 30 v).2 = .int .i64 (vi v)) ∧
  (∀ h : 33 < Try.prog.types.size, (Try.prog.types[33]'h).size = 3) ∧
  (∀ h : 34 < Try.prog.types.size, (Try.prog.types[34]'h).size = 3) ∧
  (∀ h : 35 < Try.prog.types.size, (Try.prog.types[35]'h).size = 1) ∧
  (∀ v : V, (castV Try.prog 35 v).1 = ∃ n, v = .int .u64 n) ∧
  (∀ v : V, (castV Try.prog 35 v).2 = .int .u64 (vi v)) ∧
  (∀ h : 36 < Try.prog.types.size, (Try.prog.types[36]'h).size = 1) ∧
  (∀ v : V, (castV Try.prog 36 v).1 = ∃ n cs, v = .view n 2 cs) ∧
  (∀ v : V, (castV Try.prog 36 v).2 = .view (vn v) 2 (vcs v)) ∧
  (∀ h : 38 < Try.prog.types.size, (Try.prog.types[38]'h).size = 2) ∧
  (∀ h : 39 < Try.prog.types.size, (Try.prog.types[39]'h).size = 2) ∧
  (∀ h : 42 < Try.prog.types.size, (Try.prog.types[42]'h).size = 1) ∧
  (∀ v : V, (castV Try.prog 42 v).1 = ∃ n, v = .int .u32 n) ∧
  (∀ v : V, (castV Try.prog 42 v).2 = .int .u32 (vi v)) ∧
  (∀ h : 50 < Try.prog.types.size, (Try.prog.types[50]'h).size = 1) ∧
  (∀ v : V, (castV Try.prog 50 v).1 = ∃ n cs, v = .view n 9 cs) ∧
  (∀ v : V, (castV Try.prog 50 v).2 = .view (vn v) 9 (vcs v)) ∧
  (∀ h : 51 < Try.prog.types.size, (Try.prog.types[51]'h).size = 3) ∧
  (∀ h : 52 < Try.prog.types.size, (Try.prog.types[52]'h).size = 1) ∧
  (∀ h : 54 < Try.prog.types.size, (Try.prog.types[54]'h).size = 3) ∧
  (∀ h : 55 < Try.prog.types.size, (Try.prog.types[55]'h).size = 9) ∧
  (∀ h : 56 < Try.prog.types.size, (Try.prog.types[56]'h).size = 9) ∧
  (∀ h : 57 < Try.prog.types.size, (Try.prog.types[57]'h).size = 1) ∧
  (∀ v : V, (castV Try.prog 57 v).1 = ∃ n, v = .int .u64 n) ∧
  (∀ v : V, (castV Try.prog 57 v).2 = .int .u64 (vi v)) ∧
  (∀ h : 63 < Try.prog.types.size, (Try.prog.types[63]'h).size = 3) ∧
  (∀ h : 64 < Try.prog.types.size, (Try.prog.types[64]'h).size = 3) ∧
  (∀ h : 65 < Try.prog.types.size, (Try.prog.types[65]'h).size = 1) ∧
  (∀ v : V, (castV Try.prog 65 v).1 = ∃ n cs, v = .view n 16 cs) ∧
  (∀ v : V, (castV Try.prog 65 v).2 = .view (vn v) 16 (vcs v)) ∧
  (∀ h : 70 < Try.prog.types.size, (Try.prog.types[70]'h).size = 4) ∧
  (∀ h : 71 < Try.prog.types.size, (Try.prog.types[71]'h).size = 4) ∧
  (∀ h : 74 < Try.prog.types.size, (Try.prog.types[74]'h).size = 2) ∧
  (∀ h : 75 < Try.prog.types.size, (Try.prog.types[75]'h).size = 2) ∧
  (∀ h : 76 < Try.prog.types.size, (Try.prog.types[76]'h).size = 16) ∧
  (∀ h : 77 < Try.prog.types.size, (Try.prog.types[77]'h).size = 16) ∧
  (∀ h : 96 < Try.prog.types.size, (Try.prog.types[96]'h).size = 1) :=
  ⟨z2, d2, c2, z3, d3, c3, z4, d4, c4, z5, d5, c5, z9, d9, c9, z12, d12, c12, z17, z20, z21, d21, c21, z22, d22, c22, z23, d23, c23, z25, z27, d27, c27, z28, z29, z30, d30, c30, z33, z34, z35, d35, c35, z36, d36, c36, z38, z39, z42, d42, c42, z50, d50, c50, z51, z52, z54, z55, z56, z57, d57, c57, z63, z64, z65, d65, c65, z70, z71, z74, z75, z76, z77, z96⟩
end Go.Proofs.Ytbnkjbdbcckcmaa
