/- What PutU and PutS write. -/
import Derived.Test.YticidhkilfkgbaaV4
import Derived.Test.YticidhkilfkgbaaPre
namespace Go.Proofs.Yticidhkilfkgbaa
set_option linter.unusedSimpArgs false
set_option linter.unusedVariables false
open Go Go.Abs

def putU (n : Nat) : List Int := if n < 128 then [(n : Int)] else ((n : Int) % 128 + 128) :: putU (n / 128)
termination_by n
def putS (n : Int) : List Int := if -64 ≤ n ∧ n ≤ 63 then [n % 128] else (n % 128 + 128) :: putS (n / 128)
termination_by n.natAbs
def putUs : List Int → List Int
  | [] => []
  | x :: l => putU x.toNat ++ putUs l
def putSs : List Int → List Int
  | [] => []
  | x :: l => putS x ++ putSs l
theorem putU_small {n : Nat} (h : n < 128) : putU n = [(n : Int)] := by rw [putU, if_pos h]
theorem putU_big {n : Nat} (h : ¬n < 128) : putU n = ((n : Int) % 128 + 128) :: putU (n / 128) := by rw [putU, if_neg h]
theorem putS_small {n : Int} (h : -64 ≤ n ∧ n ≤ 63) : putS n = [n % 128] := by rw [putS, if_pos h]
theorem putS_big {n : Int} (h : ¬(-64 ≤ n ∧ n ≤ 63)) : putS n = (n % 128 + 128) :: putS (n / 128) := by rw [putS, if_neg h]
theorem putUs_append (a b : List Int) : putUs (a ++ b) = putUs a ++ putUs b := by
  induction a with
  | nil => rfl
  | cons x a ih => simp [putUs, ih]
theorem putSs_append (a b : List Int) : putSs (a ++ b) = putSs a ++ putSs b := by
  induction a with
  | nil => rfl
  | cons x a ih => simp [putSs, ih]
theorem putU_len (j n : Nat) (h : n < 2 ^ (7 * (j + 1))) : (putU n).length ≤ j + 1 := by
  induction j generalizing n with
  | zero => rw [putU_small (by simpa using h)]; simp
  | succ j ih =>
    by_cases hn : n < 128
    · rw [putU_small hn]; simp
    · rw [putU_big hn, List.length_cons]
      have := ih (n / 128) (by
        rw [show 7 * (j + 1 + 1) = 7 * (j + 1) + 7 from by omega, Nat.pow_add] at h
        exact Nat.div_lt_of_lt_mul (by rw [Nat.mul_comm]; exact h))
      omega
theorem putS_len (j : Nat) (n : Int) (h : -(2 ^ (7 * j) * 64) ≤ n ∧ n < 2 ^ (7 * j) * 64) : (putS n).length ≤ j + 1 := by
  induction j generalizing n with
  | zero => rw [putS_small (by simp at h; omega)]; simp
  | succ j ih =>
    by_cases hn : -64 ≤ n ∧ n ≤ 63
    · rw [putS_small hn]; simp
    · rw [putS_big hn, List.length_cons]
      have := ih (n / 128) (by
        rw [show 7 * (j + 1) = 7 * j + 7 from by omega, Int.pow_add] at h
        generalize (2 : Int) ^ (7 * j) = P at h ⊢
        omega)
      omega
theorem putUs_len (l : List Int) (h : ∀ x ∈ l, 0 ≤ x ∧ x < 2 ^ 64) : (putUs l).length ≤ 10 * l.length := by
  induction l with
  | nil => exact Nat.le_refl _
  | cons x l ih =>
    have h1 := ih (fun y hy => h y (List.mem_cons_of_mem _ hy))
    have h2 := h x (List.mem_cons_self ..)
    have h3 := putU_len 9 x.toNat (by simp; omega)
    simp only [putUs, List.length_append, List.length_cons]; omega
theorem putSs_len (l : List Int) (h : ∀ x ∈ l, -2 ^ 63 ≤ x ∧ x < 2 ^ 63) : (putSs l).length ≤ 10 * l.length := by
  induction l with
  | nil => exact Nat.le_refl _
  | cons x l ih =>
    have h1 := ih (fun y hy => h y (List.mem_cons_of_mem _ hy))
    have h2 := h x (List.mem_cons_self ..)
    have h3 := putS_len 9 x (by simp only [Nat.reduceMul, Int.reducePow, Int.reduceMul]; omega)
    simp only [putSs, List.length_append, List.length_cons]; omega
theorem putU_bytes (n : Nat) : bytes (putU n) := by
  induction n using Nat.strongRecOn with
  | ind n ih =>
    by_cases hn : n < 128
    · rw [putU_small hn]; intro x hx; rw [List.mem_singleton] at hx; subst hx; exact ⟨by omega, by omega⟩
    · rw [putU_big hn]; intro x hx
      rcases List.mem_cons.1 hx with rfl | hx
      · exact ⟨by omega, by omega⟩
      · exact ih _ (by omega) x hx
theorem putS_bytes (n : Int) : bytes (putS n) := by
  induction h : n.natAbs using Nat.strongRecOn generalizing n with
  | ind k ih =>
    by_cases hn : -64 ≤ n ∧ n ≤ 63
    · rw [putS_small hn]; intro x hx; rw [List.mem_singleton] at hx; subst hx; exact ⟨by omega, by omega⟩
    · rw [putS_big hn]; intro x hx
      rcases List.mem_cons.1 hx with rfl | hx
      · exact ⟨by omega, by omega⟩
      · exact ih (n / 128).natAbs (by omega) _ rfl x hx
theorem bytes_append {a b : List Int} (ha : bytes a) (hb : bytes b) : bytes (a ++ b) := by
  intro x hx; rcases List.mem_append.1 hx with h | h
  · exact ha x h
  · exact hb x h
theorem putUs_bytes (l : List Int) : bytes (putUs l) := by
  induction l with
  | nil => intro x hx; cases hx
  | cons x l ih => exact bytes_append (putU_bytes _) ih
theorem putSs_bytes (l : List Int) : bytes (putSs l) := by
  induction l with
  | nil => intro x hx; cases hx
  | cons x l ih => exact bytes_append (putS_bytes _) ih
/-- the lowest seven bits of a number with a sign -/
theorem and_i127 (x : Int) : bitsOp .and .i64 x 127 = x % 128 := by
  simp only [bitsOp]
  rw [BitVec.toNat_and, show (BitVec.ofInt IntKind.i64.bits 127).toNat = 2 ^ 7 - 1 from by decide, Nat.and_two_pow_sub_one_eq_mod, BitVec.toNat_ofInt]
  show IntKind.i64.wrap (((x % (2 ^ 64 : Nat)).toNat % 2 ^ 7 : Nat) : Int) = _
  rw [Go.Abs.wrap_small (by omega) (by show _ < (2 : Int) ^ 63; omega)]
  omega
theorem shr7 {k : IntKind} (x : Int) (h : 7 ≤ k.bits) : x.fdiv (2 ^ min (Int.toNat 7) k.bits) = x / 128 := by
  rw [show (Int.toNat 7) = 7 from rfl, Nat.min_eq_left h]
  exact Int.fdiv_eq_ediv_of_nonneg _ (by decide)
theorem lowByte (x : Int) : bitsOp .or .u8 (IntKind.u8.wrap x) 128 = x % 128 + 128 := by
  rw [wrap_unsigned (k := .u8) rfl, or_128 (by show 0 ≤ x % 256; omega) (by show x % 256 ≤ 255; omega)]
  show x % 256 % 128 + 128 = _
  omega
end Go.Proofs.Yticidhkilfkgbaa
