/- What the types of this seat's program are. Printed by a program of mine. -/
import Derived.Test.YtbdmieljkgcpcaaProg
import Derived.Test.YtbdmieljkgcpcaaV4
namespace Go.Proofs.Ytbdmieljkgcpcaa
open Go Go.Abs
theorem z2 (h : 2 < Try.prog.types.size) : (Try.prog.types[2]'h).size = 1 := by kernel_rfl
theorem i2 : intT Try.prog 2 = some .i64 := by kernel_rfl
theorem d2 (v : V) : (castV Try.prog 2 v).1 = ∃ n, v = .int .i64 n := rfl
theorem c2 (v : V) : (castV Try.prog 2 v).2 = .int .i64 (vi v) := rfl
theorem z3 (h : 3 < Try.prog.types.size) : (Try.prog.types[3]'h).size = 1 := by kernel_rfl
theorem i3 : intT Try.prog 3 = some .i64 := by kernel_rfl
theorem d3 (v : V) : (castV Try.prog 3 v).1 = ∃ n, v = .int .i64 n := rfl
theorem c3 (v : V) : (castV Try.prog 3 v).2 = .int .i64 (vi v) := rfl
theorem z4 (h : 4 < Try.prog.types.size) : (Try.prog.types[4]'h).size = 1 := by kernel_rfl
theorem d4 (v : V) : (castV Try.prog 4 v).1 = ∃ b, v = .bool b := rfl
theorem c4 (v : V) : (castV Try.prog 4 v).2 = .bool (vb v) := rfl
theorem z5 (h : 5 < Try.prog.types.size) : (Try.prog.types[5]'h).size = 1 := by kernel_rfl
theorem i5 : intT Try.prog 5 = some .u8 := by kernel_rfl
theorem d5 (v : V) : (castV Try.prog 5 v).1 = ∃ n, v = .int .u8 n := rfl
theorem c5 (v : V) : (castV Try.prog 5 v).2 = .int .u8 (vi v) := rfl
theorem z9 (h : 9 < Try.prog.types.size) : (Try.prog.types[9]'h).size = 1 := by kernel_rfl
theorem d9 (v : V) : (castV Try.prog 9 v).1 = ∃ s, v = .str s := rfl
theorem c9 (v : V) : (castV Try.prog 9 v).2 = .str (vst v) := rfl
theorem z12 (h : 12 < Try.prog.types.size) : (Try.prog.types[12]'h).size = 1 := by kernel_rfl
theorem i12 : intT Try.prog 12 = some .u64 := by kernel_rfl
theorem d12 (v : V) : (castV Try.prog 12 v).1 = ∃ n, v = .int .u64 n := rfl
theorem c12 (v : V) : (castV Try.prog 12 v).2 = .int .u64 (vi v) := rfl
theorem z17 (h : 17 < Try.prog.types.size) : (Try.prog.types[17]'h).size = 1 := by kernel_rfl
theorem z20 (h : 20 < Try.prog.types.size) : (Try.prog.types[20]'h).size = 1 := by kernel_rfl
theorem z21 (h : 21 < Try.prog.types.size) : (Try.prog.types[21]'h).size = 1 := by kernel_rfl
theorem i21 : intT Try.prog 21 = some .i32 := by kernel_rfl
theorem d21 (v : V) : (castV Try.prog 21 v).1 = ∃ n, v = .int .i32 n := rfl
theorem c21 (v : V) : (castV Try.prog 21 v).2 = .int .i32 (vi v) := rfl
theorem z22 (h : 22 < Try.prog.types.size) : (Try.prog.types[22]'h).size = 1 := by kernel_rfl
theorem d22 (v : V) : (castV Try.prog 22 v).1 = ∃ n cs, v = .view n 1 cs := rfl
theorem c22 (v : V) : (castV Try.prog 22 v).2 = .view (vn v) 1 (vcs v) := rfl
theorem z24 (h : 24 < Try.prog.types.size) : (Try.prog.types[24]'h).size = 2 := by kernel_rfl
theorem z25 (h : 25 < Try.prog.types.size) : (Try.prog.types[25]'h).size = 2 := by kernel_rfl
theorem z32 (h : 32 < Try.prog.types.size) : (Try.prog.types[32]'h).size = 1 := by kernel_rfl
theorem d32 (v : V) : (castV Try.prog 32 v).1 = ∃ n cs, v = .view n 2 cs := rfl
theorem c32 (v : V) : (castV Try.prog 32 v).2 = .view (vn v) 2 (vcs v) := rfl
theorem z33 (h : 33 < Try.prog.types.size) : (Try.prog.types[33]'h).size = 1 := by kernel_rfl
theorem d33 (v : V) : (castV Try.prog 33 v).1 = ∃ n cs, v = .view n 3 cs := rfl
theorem c33 (v : V) : (castV Try.prog 33 v).2 = .view (vn v) 3 (vcs v) := rfl
theorem z34 (h : 34 < Try.prog.types.size) : (Try.prog.types[34]'h).size = 1 := by kernel_rfl
theorem d34 (v : V) : (castV Try.prog 34 v).1 = ∃ n cs, v = .view n 2 cs := rfl
theorem c34 (v : V) : (castV Try.prog 34 v).2 = .view (vn v) 2 (vcs v) := rfl
theorem z35 (h : 35 < Try.prog.types.size) : (Try.prog.types[35]'h).size = 1 := by kernel_rfl
theorem d35 (v : V) : (castV Try.prog 35 v).1 = ∃ n cs, v = .view n 3 cs := rfl
theorem c35 (v : V) : (castV Try.prog 35 v).2 = .view (vn v) 3 (vcs v) := rfl
theorem z36 (h : 36 < Try.prog.types.size) : (Try.prog.types[36]'h).size = 1 := by kernel_rfl
theorem d36 (v : V) : (castV Try.prog 36 v).1 = ∃ n cs, v = .view n 3 cs := rfl
theorem c36 (v : V) : (castV Try.prog 36 v).2 = .view (vn v) 3 (vcs v) := rfl
theorem z37 (h : 37 < Try.prog.types.size) : (Try.prog.types[37]'h).size = 1 := by kernel_rfl
theorem d37 (v : V) : (castV Try.prog 37 v).1 = ∃ n cs, v = .view n 2 cs := rfl
theorem c37 (v : V) : (castV Try.prog 37 v).2 = .view (vn v) 2 (vcs v) := rfl
theorem z38 (h : 38 < Try.prog.types.size) : (Try.prog.types[38]'h).size = 1 := by kernel_rfl
theorem d38 (v : V) : (castV Try.prog 38 v).1 = ∃ n cs, v = .view n 2 cs := rfl
theorem c38 (v : V) : (castV Try.prog 38 v).2 = .view (vn v) 2 (vcs v) := rfl
theorem z39 (h : 39 < Try.prog.types.size) : (Try.prog.types[39]'h).size = 1 := by kernel_rfl
theorem d39 (v : V) : (castV Try.prog 39 v).1 = ∃ n cs, v = .view n 2 cs := rfl
theorem c39 (v : V) : (castV Try.prog 39 v).2 = .view (vn v) 2 (vcs v) := rfl
theorem z40 (h : 40 < Try.prog.types.size) : (Try.prog.types[40]'h).size = 11 := by kernel_rfl
theorem z41 (h : 41 < Try.prog.types.size) : (Try.prog.types[41]'h).size = 11 := by kernel_rfl
theorem z47 (h : 47 < Try.prog.types.size) : (Try.prog.types[47]'h).size = 1 := by kernel_rfl
theorem d47 (v : V) : (castV Try.prog 47 v).1 = ∃ n cs, v = .view n 16 cs := rfl
theorem c47 (v : V) : (castV Try.prog 47 v).2 = .view (vn v) 16 (vcs v) := rfl
theorem z48 (h : 48 < Try.prog.types.size) : (Try.prog.types[48]'h).size = 1 := by kernel_rfl
theorem d48 (v : V) : (castV Try.prog 48 v).1 = ∃ n cs, v = .view n 1 cs := rfl
theorem c48 (v : V) : (castV Try.prog 48 v).2 = .view (vn v) 1 (vcs v) := rfl
theorem z49 (h : 49 < Try.prog.types.size) : (Try.prog.types[49]'h).size = 1 := by kernel_rfl
theorem i49 : intT Try.prog 49 = some .i64 := by kernel_rfl
theorem d49 (v : V) : (castV Try.prog 49 v).1 = ∃ n, v = .int .i64 n := rfl
theorem c49 (v : V) : (castV Try.prog 49 v).2 = .int .i64 (vi v) := rfl
theorem z52 (h : 52 < Try.prog.types.size) : (Try.prog.types[52]'h).size = 1 := by kernel_rfl
theorem i52 : intT Try.prog 52 = some .u64 := by kernel_rfl
theorem d52 (v : V) : (castV Try.prog 52 v).1 = ∃ n, v = .int .u64 n := rfl
theorem c52 (v : V) : (castV Try.prog 52 v).2 = .int .u64 (vi v) := rfl
theorem z53 (h : 53 < Try.prog.types.size) : (Try.prog.types[53]'h).size = 2 := by kernel_rfl
theorem z54 (h : 54 < Try.prog.types.size) : (Try.prog.types[54]'h).size = 2 := by kernel_rfl
theorem z56 (h : 56 < Try.prog.types.size) : (Try.prog.types[56]'h).size = 16 := by kernel_rfl
theorem z57 (h : 57 < Try.prog.types.size) : (Try.prog.types[57]'h).size = 16 := by kernel_rfl
theorem z67 (h : 67 < Try.prog.types.size) : (Try.prog.types[67]'h).size = 1 := by kernel_rfl
theorem d67 (v : V) : (castV Try.prog 67 v).1 = ∃ n cs, v = .view n 1 cs := rfl
theorem c67 (v : V) : (castV Try.prog 67 v).2 = .view (vn v) 1 (vcs v) := rfl
theorem z76 (h : 76 < Try.prog.types.size) : (Try.prog.types[76]'h).size = 1 := by kernel_rfl
theorem i76 : intT Try.prog 76 = some .u32 := by kernel_rfl
theorem d76 (v : V) : (castV Try.prog 76 v).1 = ∃ n, v = .int .u32 n := rfl
theorem c76 (v : V) : (castV Try.prog 76 v).2 = .int .u32 (vi v) := rfl
theorem z80 (h : 80 < Try.prog.types.size) : (Try.prog.types[80]'h).size = 1 := by kernel_rfl
theorem z85 (h : 85 < Try.prog.types.size) : (Try.prog.types[85]'h).size = 3 := by kernel_rfl
theorem z86 (h : 86 < Try.prog.types.size) : (Try.prog.types[86]'h).size = 3 := by kernel_rfl
theorem z87 (h : 87 < Try.prog.types.size) : (Try.prog.types[87]'h).size = 2 := by kernel_rfl
theorem z88 (h : 88 < Try.prog.types.size) : (Try.prog.types[88]'h).size = 2 := by kernel_rfl
theorem z89 (h : 89 < Try.prog.types.size) : (Try.prog.types[89]'h).size = 1 := by kernel_rfl
theorem d89 (v : V) : (castV Try.prog 89 v).1 = ∃ n cs, v = .view n 6 cs := rfl
theorem c89 (v : V) : (castV Try.prog 89 v).2 = .view (vn v) 6 (vcs v) := rfl
theorem z90 (h : 90 < Try.prog.types.size) : (Try.prog.types[90]'h).size = 3 := by kernel_rfl
theorem z91 (h : 91 < Try.prog.types.size) : (Try.prog.types[91]'h).size = 3 := by kernel_rfl
theorem z92 (h : 92 < Try.prog.types.size) : (Try.prog.types[92]'h).size = 3 := by kernel_rfl
theorem z93 (h : 93 < Try.prog.types.size) : (Try.prog.types[93]'h).size = 3 := by kernel_rfl
theorem z94 (h : 94 < Try.prog.types.size) : (Try.prog.types[94]'h).size = 2 := by kernel_rfl
theorem z95 (h : 95 < Try.prog.types.size) : (Try.prog.types[95]'h).size = 2 := by kernel_rfl
theorem z96 (h : 96 < Try.prog.types.size) : (Try.prog.types[96]'h).size = 2 := by kernel_rfl
theorem z97 (h : 97 < Try.prog.types.size) : (Try.prog.types[97]'h).size = 2 := by kernel_rfl
theorem z98 (h : 98 < Try.prog.types.size) : (Try.prog.types[98]'h).size = 2 := by kernel_rfl
theorem z99 (h : 99 < Try.prog.types.size) : (Try.prog.types[99]'h).size = 2 := by kernel_rfl
theorem z101 (h : 101 < Try.prog.types.size) : (Try.prog.types[101]'h).size = 6 := by kernel_rfl
theorem z102 (h : 102 < Try.prog.types.size) : (Try.prog.types[102]'h).size = 6 := by kernel_rfl
/-- all of them, as rules for simp -/
theorem TY : (∀ h : 2 < Try.prog.types.size, (Try.prog.types[2]'h).size = 1) ∧
  (∀ v : V, (castV Try.prog 2 v).1 = ∃ n, v = .int .i64 n) ∧
  (∀ v : V, (castV Try.prog 2 v).2 = .int .i64 (vi v)) ∧
  (∀ h : 3 < Try.prog.types.size, (Try.prog.types[3]'h).size = 1) ∧
  (∀ v : V, (castV Try.prog 3 v).1 = ∃ n, v = .int .i64 n) ∧
  (∀ v : V, (castV Try.prog 3 v).2 = .int .i64 (vi v)) ∧
  (∀ h : 4 < Try.prog.types.size, (Try.prog.types[4]'h).size = 1) ∧
  (∀ v : V, (castV Try.prog 4 v).1 = ∃ b, v = .bool b) ∧
  (∀ v : V, (castV Try.prog 4 v).2 = .bool (vb v)) ∧
  (∀ h : 5 < Try.prog.types.size, (Try.prog.types[5]'h).size = 1) ∧
  (∀ v : V, (castV Try.prog 5 v).1 = ∃ n, v = .int .u8 n) ∧
  (∀ v : V, (castV Try.prog 5 v).2 = .int .u8 (vi v)) ∧
  (∀ h : 9 < Try.prog.types.size, (Try.prog.types[9]'h).size = 1) ∧
  (∀ v : V, (castV Try.prog 9 v).1 = ∃ s, v = .str s) ∧
  (∀ v : V, (castV Try.prog 9 v).2 = .str (vst v)) ∧
  (∀ h : 12 < Try.prog.types.size, (Try.prog.types[12]'h).size = 1) ∧
  (∀ v : V, (castV Try.prog 12 v).1 = ∃ n, v = .int .u64 n) ∧
  (∀ v : V, (castV Try.prog 12 v).2 = .int .u64 (vi v)) ∧
  (∀ h : 17 < Try.prog.types.size, (Try.prog.types[17]'h).size = 1) ∧
  (∀ h : 20 < Try.prog.types.size, (Try.prog.types[20]'h).size = 1) ∧
  (∀ h : 21 < Try.prog.types.size, (Try.prog.types[21]'h).size = 1) ∧
  (∀ v : V, (castV Try.prog 21 v).1 = ∃ n, v = .int .i32 n) ∧
  (∀ v : V, (castV Try.prog 21 v).2 = .int .i32 (vi v)) ∧
  (∀ h : 22 < Try.prog.types.size, (Try.prog.types[22]'h).size = 1) ∧
  (∀ v : V, (castV Try.prog 22 v).1 = ∃ n cs, v = .view n 1 cs) ∧
  (∀ v : V, (castV Try.prog 22 v).2 = .view (vn v) 1 (vcs v)) ∧
  (∀ h : 24 < Try.prog.types.size, (Try.prog.types[24]'h).size = 2) ∧
  (∀ h : 25 < Try.prog.types.size, (Try.prog.types[25]'h).size = 2) ∧
  (∀ h : 32 < Try.prog.types.size, (Try.prog.types[32]'h).size = 1) ∧
  (∀ v : V, (castV Try.prog 32 v).1 = ∃ n cs, v = .view n 2 cs) ∧
  (∀ v : V, (castV Try.prog 32 v).2 = .view (vn v) 2 (vcs v)) ∧
  (∀ h : 33 < Try.prog.types.size, (Try.prog.types[33]'h).size = 1) ∧
  (∀ v : V, (castV Try.prog 33 v).1 = ∃ n cs, v = .view n 3 cs) ∧
  (∀ v : V, (castV Try.prog 33 v).2 = .view (vn v) 3 (vcs v)) ∧
  (∀ h : 34 < Try.prog.types.size, (Try.prog.types[34]'h).size = 1) ∧
  (∀ v : V, (castV Try.prog 34 v).1 = ∃ n cs, v = .view n 2 cs) ∧
  (∀ v : V, (castV Try.prog 34 v).2 = .view (vn v) 2 (vcs v)) ∧
  (∀ h : 35 < Try.prog.types.size, (Try.prog.types[35]'h).size = 1) ∧
  (∀ v : V, (castV Try.prog 35 v).1 = ∃ n cs, v = .view n 3 cs) ∧
  (∀ v : V, (castV Try.prog 35 v).2 = .view (vn v) 3 (vcs v)) ∧
  (∀ h : 36 < Try.prog.types.size, (Try.prog.types[36]'h).size = 1) ∧
  (∀ v : V, (castV Try.prog 36 v).1 = ∃ n cs, v = .view n 3 cs) ∧
  (∀ v : V, (castV Try.prog 36 v).2 = .view (vn v) 3 (vcs v)) ∧
  (∀ h : 37 < Try.prog.types.size, (Try.prog.types[37]'h).size = 1) ∧
  (∀ v : V, (castV Try.prog 37 v).1 = ∃ n cs, v = .view n 2 cs) ∧
  (∀ v : V, (castV Try.prog 37 v).2 = .view (vn v) 2 (vcs v)) ∧
  (∀ h : 38 < Try.prog.types.size, (Try.prog.types[38]'h).size = 1) ∧
  (∀ v : V, (castV Try.prog 38 v).1 = ∃ n cs, v = .view n 2 cs) ∧
  (∀ v : V, (castV Try.prog 38 v).2 = .view (vn v) 2 (vcs v)) ∧
  (∀ h : 39 < Try.prog.types.size, (Try.prog.types[39]'h).size = 1) ∧
  (∀ v : V, (castV Try.prog 39 v).1 = ∃ n cs, v = .view n 2 cs) ∧
  (∀ v : V, (castV Try.prog 39 v).2 = .view (vn v) 2 (vcs v)) ∧
  (∀ h : 40 < Try.prog.types.size, (Try.prog.types[40]'h).size = 11) ∧
  (∀ h : 41 < Try.prog.types.size, (Try.prog.types[41]'h).size = 11) ∧
  (∀ h : 47 < Try.prog.types.size, (Try.prog.types[47]'h).size = 1) ∧
  (∀ v : V, (castV Try.prog 47 v).1 = ∃ n cs, v = .view n 16 cs) ∧
  (∀ v : V, (castV Try.prog 47 v).2 = .view (vn v) 16 (vcs v)) ∧
  (∀ h : 48 < Try.prog.types.size, (Try.prog.types[48]'h).size = 1) ∧
  (∀ v : V, (castV Try.prog 48 v).1 = ∃ n cs, v = .view n 1 cs) ∧
  (∀ v : V, (castV Try.prog 48 v).2 = .view (vn v) 1 (vcs v)) ∧
  (∀ h : 49 < Try.prog.types.size, (Try.prog.types[49]'h).size = 1) ∧
  (∀ v : V, (castV Try.prog 49 v).1 = ∃ n, v = .int .i64 n) ∧
  (∀ v : V, (castV Try.prog 49 v).2 = .int .i64 (vi v)) ∧
  (∀ h : 52 < Try.prog.types.size, (Try.prog.types[52]'h).size = 1) ∧
  (∀ v : V, (castV Try.prog 52 v).1 = ∃ n, v = .int .u64 n) ∧
  (∀ v : V, (castV Try.prog 52 v).2 = .int .u64 (vi v)) ∧
  (∀ h : 53 < Try.prog.types.size, (Try.prog.types[53]'h).size = 2) ∧
  (∀ h : 54 < Try.prog.types.size, (Try.prog.types[54]'h).size = 2) ∧
  (∀ h : 56 < Try.prog.types.size, (Try.prog.types[56]'h).size = 16) ∧
  (∀ h : 57 < Try.prog.types.size, (Try.prog.types[57]'h).size = 16) ∧
  (∀ h : 67 < Try.prog.types.size, (Try.prog.types[67]'h).size = 1) ∧
  (∀ v : V, (castV Try.prog 67 v).1 = ∃ n cs, v = .view n 1 cs) ∧
  (∀ v : V, (castV Try.prog 67 v).2 = .view (vn v) 1 (vcs v)) ∧
  (∀ h : 76 < Try.prog.types.size, (Try.prog.types[76]'h).size = 1) ∧
  (∀ v : V, (castV Try.prog 76 v).1 = ∃ n, v = .int .u32 n) ∧
  (∀ v : V, (castV Try.prog 76 v).2 = .int .u32 (vi v)) ∧
  (∀ h : 80 < Try.prog.types.size, (Try.prog.types[80]'h).size = 1) ∧
  (∀ h : 85 < Try.prog.types.size, (Try.prog.types[85]'h).size = 3) ∧
  (∀ h : 86 < Try.prog.types.size, (Try.prog.types[86]'h).size = 3) ∧
  (∀ h : 87 < Try.prog.types.size, (Try.prog.types[87]'h).size = 2) ∧
  (∀ h : 88 < Try.prog.types.size, (Try.prog.types[88]'h).size = 2) ∧
  (∀ h : 89 < Try.prog.types.size, (Try.prog.types[89]'h).size = 1) ∧
  (∀ v : V, (castV Try.prog 89 v).1 = ∃ n cs, v = .view n 6 cs) ∧
  (∀ v : V, (castV Try.prog 89 v).2 = .view (vn v) 6 (vcs v)) ∧
  (∀ h : 90 < Try.prog.types.size, (Try.prog.types[90]'h).size = 3) ∧
  (∀ h : 91 < Try.prog.types.size, (Try.prog.types[91]'h).size = 3) ∧
  (∀ h : 92 < Try.prog.types.size, (Try.prog.types[92]'h).size = 3) ∧
  (∀ h : 93 < Try.prog.types.size, (Try.prog.types[93]'h).size = 3) ∧
  (∀ h : 94 < Try.prog.types.size, (Try.prog.types[94]'h).size = 2) ∧
  (∀ h : 95 < Try.prog.types.size, (Try.prog.types[95]'h).size = 2) ∧
  (∀ h : 96 < Try.prog.types.size, (Try.prog.types[96]'h).size = 2) ∧
  (∀ h : 97 < Try.prog.types.size, (Try.prog.types[97]'h).size = 2) ∧
  (∀ h : 98 < Try.prog.types.size, (Try.prog.types[98]'h).size = 2) ∧
  (∀ h : 99 < Try.prog.types.size, (Try.prog.types[99]'h).size = 2) ∧
  (∀ h : 101 < Try.prog.types.size, (Try.prog.types[101]'h).size = 6) ∧
  (∀ h : 102 < Try.prog.types.size, (Try.prog.types[102]'h).size = 6) :=
  ⟨z2, d2, c2, z3, d3, c3, z4, d4, c4, z5, d5, c5, z9, d9, c9, z12, d12, c12, z17, z20, z21, d21, c21, z22, d22, c22, z24, z25, z32, d32, c32, z33, d33, c33, z34, d34, c34, z35, d35, c35, z36, d36, c36, z37, d37, c37, z38, d38, c38, z39, d39, c39, z40, z41, z47, d47, c47, z48, d48, c48, z49, d49, c49, z52, d52, c52, z53, z54, z56, z57, z67, d67, c67, z76, d76, c76, z80, z85, z86, z87, z88, z89, d89, c89, z90, z91, z92, z93, z94, z95, z96, z97, z98, z99, z101, z102⟩
end Go.Proofs.Ytbdmieljkgcpcaa
