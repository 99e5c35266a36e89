/- What the types of this seat's program are. Printed by a program of mine. -/
import Derived.Test.YtgogfiojmmohoaaProg
import Derived.Test.YtgogfiojmmohoaaV4
namespace Go.Proofs.Ytgogfiojmmohoaa
open Go Go.Abs
theorem z2 (h : 2 < Try.prog.types.size) : (Try.prog.types[2]'h).size = 1 := by kernel_rfl
theorem i2 : intT Try.prog 2 = some .i64 := by kernel_rfl
theorem d2 (v : V) : (castV Try.prog 2 v).1 = ∃ n, v = .int .i64 n := rfl
theorem c2 (v : V) : (castV Try.prog 2 v).2 = .int .i64 (vi v) := rfl
theorem z3 (h : 3 < Try.prog.types.size) : (Try.prog.types[3]'h).size = 1 := by kernel_rfl
theorem i3 : intT Try.prog 3 = some .i64 := by kernel_rfl
theorem d3 (v : V) : (castV Try.prog 3 v).1 = ∃ n, v = .int .i64 n := rfl
theorem c3 (v : V) : (castV Try.prog 3 v).2 = .int .i64 (vi v) := rfl
theorem z4 (h : 4 < Try.prog.types.size) : (Try.prog.types[4]'h).size = 1 := by kernel_rfl
theorem d4 (v : V) : (castV Try.prog 4 v).1 = ∃ b, v = .bool b := rfl
theorem c4 (v : V) : (castV Try.prog 4 v).2 = .bool (vb v) := rfl
theorem z5 (h : 5 < Try.prog.types.size) : (Try.prog.types[5]'h).size = 1 := by kernel_rfl
theorem i5 : intT Try.prog 5 = some .u8 := by kernel_rfl
theorem d5 (v : V) : (castV Try.prog 5 v).1 = ∃ n, v = .int .u8 n := rfl
theorem c5 (v : V) : (castV Try.prog 5 v).2 = .int .u8 (vi v) := rfl
theorem z9 (h : 9 < Try.prog.types.size) : (Try.prog.types[9]'h).size = 1 := by kernel_rfl
theorem d9 (v : V) : (castV Try.prog 9 v).1 = ∃ s, v = .str s := rfl
theorem c9 (v : V) : (castV Try.prog 9 v).2 = .str (vst v) := rfl
theorem z12 (h : 12 < Try.prog.types.size) : (Try.prog.types[12]'h).size = 1 := by kernel_rfl
theorem i12 : intT Try.prog 12 = some .u64 := by kernel_rfl
theorem d12 (v : V) : (castV Try.prog 12 v).1 = ∃ n, v = .int .u64 n := rfl
theorem c12 (v : V) : (castV Try.prog 12 v).2 = .int .u64 (vi v) := rfl
theorem z17 (h : 17 < Try.prog.types.size) : (Try.prog.types[17]'h).size = 1 := by kernel_rfl
theorem z20 (h : 20 < Try.prog.types.size) : (Try.prog.types[20]'h).size = 1 := by kernel_rfl
theorem z21 (h : 21 < Try.prog.types.size) : (Try.prog.types[21]'h).size = 1 := by kernel_rfl
theorem i21 : intT Try.prog 21 = some .i32 := by kernel_rfl
theorem d21 (v : V) : (castV Try.prog 21 v).1 = ∃ n, v = .int .i32 n := rfl
theorem c21 (v : V) : (castV Try.prog 21 v).2 = .int .i32 (vi v) := rfl
theorem z22 (h : 22 < Try.prog.types.size) : (Try.prog.types[22]'h).size = 1 := by kernel_rfl
theorem d22 (v : V) : (castV Try.prog 22 v).1 = ∃ n cs, v = .view n 2 cs := rfl
theorem c22 (v : V) : (castV Try.prog 22 v).2 = .view (vn v) 2 (vcs v) := rfl
theorem z23 (h : 23 < Try.prog.types.size) : (Try.prog.types[23]'h).size = 1 := by kernel_rfl
theorem d23 (v : V) : (castV Try.prog 23 v).1 = ∃ n cs, v = .view n 7 cs := rfl
theorem c23 (v : V) : (castV Try.prog 23 v).2 = .view (vn v) 7 (vcs v) := rfl
theorem z24 (h : 24 < Try.prog.types.size) : (Try.prog.types[24]'h).size = 2 := by kernel_rfl
theorem z25 (h : 25 < Try.prog.types.size) : (Try.prog.types[25]'h).size = 2 := by kernel_rfl
theorem z27 (h : 27 < Try.prog.types.size) : (Try.prog.types[27]'h).size = 1 := by kernel_rfl
theorem d27 (v : V) : (castV Try.prog 27 v).1 = ∃ n cs, v = .view n 1 cs := rfl
theorem c27 (v : V) : (castV Try.prog 27 v).2 = .view (vn v) 1 (vcs v) := rfl
theorem z30 (h : 30 < Try.prog.types.size) : (Try.prog.types[30]'h).size = 1 := by kernel_rfl
theorem d30 (v : V) : (castV Try.prog 30 v).1 = ∃ n cs, v = .view n 3 cs := rfl
theorem c30 (v : V) : (castV Try.prog 30 v).2 = .view (vn v) 3 (vcs v) := rfl
theorem z31 (h : 31 < Try.prog.types.size) : (Try.prog.types[31]'h).size = 7 := by kernel_rfl
theorem z32 (h : 32 < Try.prog.types.size) : (Try.prog.types[32]'h).size = 7 := by kernel_rfl
theorem z33 (h : 33 < Try.prog.types.size) : (Try.prog.types[33]'h).size = 1 := by kernel_rfl
theorem i33 : intT Try.prog 33 = some .i64 := by kernel_rfl
theorem d33 (v : V) : (castV Try.prog 33 v).1 = ∃ n, v = .int .i64 n := rfl
theorem c33 (v : V) : (castV Try.prog 33 v).2 = .int .i64 (vi v) := rfl
theorem z35 (h : 35 < Try.prog.types.size) : (Try.prog.types[35]'h).size = 1 := by kernel_rfl
theorem d35 (v : V) : (castV Try.prog 35 v).1 = ∃ n cs, v = .view n 1 cs := rfl
theorem c35 (v : V) : (castV Try.prog 35 v).2 = .view (vn v) 1 (vcs v) := rfl
theorem z38 (h : 38 < Try.prog.types.size) : (Try.prog.types[38]'h).size = 1 := by kernel_rfl
theorem i38 : intT Try.prog 38 = some .u64 := by kernel_rfl
theorem d38 (v : V) : (castV Try.prog 38 v).1 = ∃ n, v = .int .u64 n := rfl
theorem c38 (v : V) : (castV Try.prog 38 v).2 = .int .u64 (vi v) := rfl
theorem z39 (h : 39 < Try.prog.types.size) : (Try.prog.types[39]'h).size = 3 := by kernel_rfl
theorem z40 (h : 40 < Try.prog.types.size) : (Try.prog.types[40]'h).size = 3 := by kernel_rfl
theorem z42 (h : 42 < Try.prog.types.size) : (Try.prog.types[42]'h).size = 1 := by kernel_rfl
theorem i42 : intT Try.prog 42 = some .u64 := by kernel_rfl
theorem d42 (v : V) : (castV Try.prog 42 v).1 = ∃ n, v = .int .u64 n := rfl
theorem c42 (v : V) : (castV Try.prog 42 v).2 = .int .u64 (vi v) := rfl
theorem z43 (h : 43 < Try.prog.types.size) : (Try.prog.types[43]'h).size = 18 := by kernel_rfl
theorem z45 (h : 45 < Try.prog.types.size) : (Try.prog.types[45]'h).size = 2 := by kernel_rfl
theorem z46 (h : 46 < Try.prog.types.size) : (Try.prog.types[46]'h).size = 2 := by kernel_rfl
theorem z49 (h : 49 < Try.prog.types.size) : (Try.prog.types[49]'h).size = 16 := by kernel_rfl
theorem z51 (h : 51 < Try.prog.types.size) : (Try.prog.types[51]'h).size = 5 := by kernel_rfl
theorem z52 (h : 52 < Try.prog.types.size) : (Try.prog.types[52]'h).size = 5 := by kernel_rfl
theorem z60 (h : 60 < Try.prog.types.size) : (Try.prog.types[60]'h).size = 1 := by kernel_rfl
theorem z61 (h : 61 < Try.prog.types.size) : (Try.prog.types[61]'h).size = 1 := by kernel_rfl
theorem d61 (v : V) : (castV Try.prog 61 v).1 = ∃ n cs, v = .view n 5 cs := rfl
theorem c61 (v : V) : (castV Try.prog 61 v).2 = .view (vn v) 5 (vcs v) := rfl
theorem z63 (h : 63 < Try.prog.types.size) : (Try.prog.types[63]'h).size = 5 := by kernel_rfl
theorem z64 (h : 64 < Try.prog.types.size) : (Try.prog.types[64]'h).size = 5 := by kernel_rfl
theorem z65 (h : 65 < Try.prog.types.size) : (Try.prog.types[65]'h).size = 1 := by kernel_rfl
theorem d65 (v : V) : (castV Try.prog 65 v).1 = ∃ n cs, v = .view n 1 cs := rfl
theorem c65 (v : V) : (castV Try.prog 65 v).2 = .view (vn v) 1 (vcs v) := rfl
theorem z76 (h : 76 < Try.prog.types.size) : (Try.prog.types[76]'h).size = 1 := by kernel_rfl
theorem i76 : intT Try.prog 76 = some .u32 := by kernel_rfl
theorem d76 (v : V) : (castV Try.prog 76 v).1 = ∃ n, v = .int .u32 n := rfl
theorem c76 (v : V) : (castV Try.prog 76 v).2 = .int .u32 (vi v) := rfl
theorem z80 (h : 80 < Try.prog.types.size) : (Try.prog.types[80]'h).size = 1 := by kernel_rfl
/-- all of them, as rules for simp -/
theorem TY : (∀ h : 2 < Try.prog.types.size, (Try.prog.types[2]'h).size = 1) ∧
  (∀ v : V, (castV Try.prog 2 v).1 = ∃ n, v = .int .i64 n) ∧
  (∀ v : V, (castV Try.prog 2 v).2 = .int .i64 (vi v)) ∧
  (∀ h : 3 < Try.prog.types.size, (Try.prog.types[3]'h).size = 1) ∧
  (∀ v : V, (castV Try.prog 3 v).1 = ∃ n, v = .int .i64 n) ∧
  (∀ v : V, (castV Try.prog 3 v).2 = .int .i64 (vi v)) ∧
  (∀ h : 4 < Try.prog.types.size, (Try.prog.types[4]'h).size = 1) ∧
  (∀ v : V, (castV Try.prog 4 v).1 = ∃ b, v = .bool b) ∧
  (∀ v : V, (castV Try.prog 4 v).2 = .bool (vb v)) ∧
  (∀ h : 5 < Try.prog.types.size, (Try.prog.types[5]'h).size = 1) ∧
  (∀ v : V, (castV Try.prog 5 v).1 = ∃ n, v = .int .u8 n) ∧
  (∀ v : V, (castV Try.prog 5 v).2 = .int .u8 (vi v)) ∧
  (∀ h : 9 < Try.prog.types.size, (Try.prog.types[9]'h).size = 1) ∧
  (∀ v : V, (castV Try.prog 9 v).1 = ∃ s, v = .str s) ∧
  (∀ v : V, (castV Try.prog 9 v).2 = .str (vst v)) ∧
  (∀ h : 12 < Try.prog.types.size, (Try.prog.types[12]'h).size = 1) ∧
  (∀ v : V, (castV Try.prog 12 v).1 = ∃ n, v = .int .u64 n) ∧
  (∀ v : V, (castV Try.prog 12 v).2 = .int .u64 (vi v)) ∧
  (∀ h : 17 < Try.prog.types.size, (Try.prog.types[17]'h).size = 1) ∧
  (∀ h : 20 < Try.prog.types.size, (Try.prog.types[20]'h).size = 1) ∧
  (∀ h : 21 < Try.prog.types.size, (Try.prog.types[21]'h).size = 1) ∧
  (∀ v : V, (castV Try.prog 21 v).1 = ∃ n, v = .int .i32 n) ∧
  (∀ v : V, (castV Try.prog 21 v).2 = .int .i32 (vi v)) ∧
  (∀ h : 22 < Try.prog.types.size, (Try.prog.types[22]'h).size = 1) ∧
  (∀ v : V, (castV Try.prog 22 v).1 = ∃ n cs, v = .view n 2 cs) ∧
  (∀ v : V, (castV Try.prog 22 v).2 = .view (vn v) 2 (vcs v)) ∧
  (∀ h : 23 < Try.prog.types.size, (Try.prog.types[23]'h).size = 1) ∧
  (∀ v : V, (castV Try.prog 23 v).1 = ∃ n cs, v = .view n 7 cs) ∧
  (∀ v : V, (castV Try.prog 23 v).2 = .view (vn v) 7 (vcs v)) ∧
  (∀ h : 24 < Try.prog.types.size, (Try.prog.types[24]'h).size = 2) ∧
  (∀ h : 25 < Try.prog.types.size, (Try.prog.types[25]'h).size = 2) ∧
  (∀ h : 27 < Try.prog.types.size, (Try.prog.types[27]'h).size = 1) ∧
  (∀ v : V, (castV Try.prog 27 v).1 = ∃ n cs, v = .view n 1 cs) ∧
  (∀ v : V, (castV Try.prog 27 v).2 = .view (vn v) 1 (vcs v)) ∧
  (∀ h : 30 < Try.prog.types.size, (Try.prog.types[30]'h).size = 1) ∧
  (∀ v : V, (castV Try.prog 30 v).1 = ∃ n cs, v = .view n 3 cs) ∧
  (∀ v : V, (castV Try.prog 30 v).2 = .view (vn v) 3 (vcs v)) ∧
  (∀ h : 31 < Try.prog.types.size, (Try.prog.types[31]'h).size = 7) ∧
  (∀ h : 32 < Try.prog.types.size, (Try.prog.types[32]'h).size = 7) ∧
  (∀ h : 33 < Try.prog.types.size, (Try.prog.types[33]'h).size = 1) ∧
  (∀ v : V, (castV Try.prog 33 v).1 = ∃ n, v = .int .i64 n) ∧
  (∀ v : V, (castV Try.prog 33 v).2 = .int .i64 (vi v)) ∧
  (∀ h : 35 < Try.prog.types.size, (Try.prog.types[35]'h).size = 1) ∧
  (∀ v : V, (castV Try.prog 35 v).1 = ∃ n cs, v = .view n 1 cs) ∧
  (∀ v : V, (castV Try.prog 35 v).2 = .view (vn v) 1 (vcs v)) ∧
  (∀ h : 38 < Try.prog.types.size, (Try.prog.types[38]'h).size = 1) ∧
  (∀ v : V, (castV Try.prog 38 v).1 = ∃ n, v = .int .u64 n) ∧
  (∀ v : V, (castV Try.prog 38 v).2 = .int .u64 (vi v)) ∧
  (∀ h : 39 < Try.prog.types.size, (Try.prog.types[39]'h).size = 3) ∧
  (∀ h : 40 < Try.prog.types.size, (Try.prog.types[40]'h).size = 3) ∧
  (∀ h : 42 < Try.prog.types.size, (Try.prog.types[42]'h).size = 1) ∧
  (∀ v : V, (castV Try.prog 42 v).1 = ∃ n, v = .int .u64 n) ∧
  (∀ v : V, (castV Try.prog 42 v).2 = .int .u64 (vi v)) ∧
  (∀ h : 43 < Try.prog.types.size, (Try.prog.types[43]'h).size = 18) ∧
  (∀ h : 45 < Try.prog.types.size, (Try.prog.types[45]'h).size = 2) ∧
  (∀ h : 46 < Try.prog.types.size, (Try.prog.types[46]'h).size = 2) ∧
  (∀ h : 49 < Try.prog.types.size, (Try.prog.types[49]'h).size = 16) ∧
  (∀ h : 51 < Try.prog.types.size, (Try.prog.types[51]'h).size = 5) ∧
  (∀ h : 52 < Try.prog.types.size, (Try.prog.types[52]'h).size = 5) ∧
  (∀ h : 60 < Try.prog.types.size, (Try.prog.types[60]'h).size = 1) ∧
  (∀ h : 61 < Try.prog.types.size, (Try.prog.types[61]'h).size = 1) ∧
  (∀ v : V, (castV Try.prog 61 v).1 = ∃ n cs, v = .view n 5 cs) ∧
  (∀ v : V, (castV Try.prog 61 v).2 = .view (vn v) 5 (vcs v)) ∧
  (∀ h : 63 < Try.prog.types.size, (Try.prog.types[63]'h).size = 5) ∧
  (∀ h : 64 < Try.prog.types.size, (Try.prog.types[64]'h).size = 5) ∧
  (∀ h : 65 < Try.prog.types.size, (Try.prog.types[65]'h).size = 1) ∧
  (∀ v : V, (castV Try.prog 65 v).1 = ∃ n cs, v = .view n 1 cs) ∧
  (∀ v : V, (castV Try.prog 65 v).2 = .view (vn v) 1 (vcs v)) ∧
  (∀ h : 76 < Try.prog.types.size, (Try.prog.types[76]'h).size = 1) ∧
  (∀ v : V, (castV Try.prog 76 v).1 = ∃ n, v = .int .u32 n) ∧
  (∀ v : V, (castV Try.prog 76 v).2 = .int .u32 (vi v)) ∧
  (∀ h : 80 < Try.prog.types.size, (Try.prog.types[80]'h).size = 1) :=
  ⟨z2, d2, c2, z3, d3, c3, z4, d4, c4, z5, d5, c5, z9, d9, c9, z12, d12, c12, z17, z20, z21, d21, c21, z22, d22, c22, z23, d23, c23, z24, z25, z27, d27, c27, z30, d30, c30, z31, z32, z33, d33, c33, z35, d35, c35, z38, d38, c38, z39, z40, z42, d42, c42, z43, z45, z46, z49, z51, z52, z60, z61, d61, c61, z63, z64, z65, d65, c65, z76, d76, c76, z80⟩
end Go.Proofs.Ytgogfiojmmohoaa
