/- Halves and lanes, in plain. -/
import Derived.Test.YtbnkjbdbcckcmaaV5
import Derived.Test.YtbnkjbdbcckcmaaPre
namespace Go.Proofs.Ytbnkjbdbcckcmaa
set_option linter.unusedSimpArgs false
set_option linter.unusedVariables false
open Go Go.Abs

theorem join_len (l h : Int) : (join l h).length = 16 := by simp [join, toB_len]
theorem join_bytes (l h : Int) : bytes (join l h) := bytes_app (toB_bytes _ _) (toB_bytes _ _)
theorem take_join (l h : Int) : (join l h).take 16 = join l h := List.take_of_length_le (by rw [join_len]; exact Nat.le_refl _)
theorem get_lo {v : List Int} : get v 64 0 = lo v := by
  unfold get lo; rw [if_pos (by decide)]; rfl
theorem get_hi {v : List Int} (h : v.length = 16) : get v 64 1 = hi v := by
  unfold get hi; rw [if_pos (by decide)]
  congr 1
  rw [show (Int.toNat 1 * wb 64) = 8 from by decide, show wb 64 = 8 from by decide, List.take_of_length_le (by rw [List.length_drop]; omega)]
theorem get_lo32 {v : List Int} (h : v.length = 16) (hb : bytes v) : get v 32 0 = lo v % 4294967296 := by
  unfold get lo; rw [if_pos (by decide)]
  rw [show (Int.toNat 0 * wb 32) = 0 from by decide, show wb 32 = 4 from by decide, List.drop_zero]
  have e : v.take 8 = v.take 4 ++ (v.drop 4).take 4 := by rw [← List.take_add]
  have hb4 := le_bound (bytes_take hb 4)
  rw [List.length_take, h] at hb4
  rw [e, le_append, List.length_take, h]
  simp only [Nat.reduceMul, Int.reducePow, show min 4 16 = 4 from rfl] at hb4 ⊢
  omega
theorem set_lo {x : Int} : set zero16 64 0 x = join x 0 := by
  unfold set join splice; rw [if_pos (by decide)]
  rw [show (Int.toNat 0 * wb 64) = 0 from by decide, show wb 64 = 8 from by decide, toB_len]
  rw [List.take_zero, List.nil_append, show toB 8 0 = [0, 0, 0, 0, 0, 0, 0, 0] from by decide]; rfl
theorem set_hi {x y : Int} : set (join x 0) 64 1 y = join x y := by
  unfold set join splice; rw [if_pos (by decide)]
  rw [show (Int.toNat 1 * wb 64) = 8 from by decide, show wb 64 = 8 from by decide, toB_len]
  rw [List.take_append_of_le_length (by rw [toB_len]; exact Nat.le_refl _), List.take_of_length_le (by rw [toB_len]; exact Nat.le_refl _), List.drop_of_length_le (by simp [toB_len]), List.append_nil]
theorem toB_zero (n : Nat) : toB n 0 = List.replicate n 0 := by
  induction n with
  | zero => rfl
  | succ n ih => rw [toB, Int.zero_ediv, ih, Int.zero_emod, List.replicate_succ]
theorem toB_append (m n : Nat) (x : Int) : toB (m + n) x = toB m x ++ toB n (x / 2 ^ (8 * m)) := by
  rw [← toB_drop, ← toB_take (m + n) m x (by omega), List.take_append_drop]
theorem toB_mod (n : Nat) (x : Int) : toB n (x % 2 ^ (8 * n)) = toB n x := by
  rw [← le_toB, show toB n (le (toB n x)) = toB (toB n x).length (le (toB n x)) from by rw [toB_len], toB_le (toB_bytes _ _)]
theorem set_lo32 {x : Int} (h0 : 0 ≤ x) : set zero16 32 0 x = join (x % 4294967296) 0 := by
  unfold set join splice; rw [if_pos (by decide)]
  rw [show (Int.toNat 0 * wb 32) = 0 from by decide, show wb 32 = 4 from by decide, toB_len]
  rw [List.take_zero, List.nil_append, show toB 8 0 = [0, 0, 0, 0, 0, 0, 0, 0] from by decide]
  rw [show toB 8 (x % 4294967296) = toB (4 + 4) (x % 4294967296) from rfl, toB_append, show toB 4 (x % 4294967296) = toB 4 x from toB_mod 4 x]
  rw [show x % 4294967296 / 2 ^ (8 * 4) = 0 from by simp only [Nat.reduceMul, Int.reducePow]; omega, toB_zero, List.append_assoc]; rfl
theorem djoin (l h : Int) : List.drop 16 (nums .u8 (join l h)) = [] := drop16 (join_len l h)
end Go.Proofs.Ytbnkjbdbcckcmaa
