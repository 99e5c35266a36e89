/- Forms that are padded, cut. -/
import Derived.Test.YticidhkilfkgbaaV4
import Derived.Test.YticidhkilfkgbaaBack
namespace Go.Proofs.Yticidhkilfkgbaa
set_option linter.unusedSimpArgs false
set_option linter.unusedVariables false
open Go Go.Abs

/-- a number's form of s + 1 bytes -/
def padU : Nat → Int → List Int
  | 0, n => [n % 128]
  | s + 1, n => (n % 128 + 128) :: padU s (n / 128)
theorem padU_len (s : Nat) (n : Int) : (padU s n).length = s + 1 := by
  induction s generalizing n with
  | zero => rfl
  | succ s ih => simp [padU, ih]
theorem padU_bytes (s : Nat) (n : Int) : bytes (padU s n) := by
  induction s generalizing n with
  | zero => intro x hx; simp only [padU, List.mem_singleton] at hx; subst hx; exact ⟨by omega, by omega⟩
  | succ s ih =>
    intro x hx
    rcases List.mem_cons.1 hx with rfl | hx
    · exact ⟨by omega, by omega⟩
    · exact ih _ x hx
theorem pow7 (s : Nat) : (2 : Int) ^ (7 * (s + 1)) = 128 * 2 ^ (7 * s) := by
  rw [show 7 * (s + 1) = 7 * s + 7 from by omega, Int.pow_add, Int.mul_comm]; rfl
theorem emod_pow7 (n : Int) (s : Nat) : n % 2 ^ (7 * (s + 1)) = n % 128 + 128 * (n / 128 % 2 ^ (7 * s)) := by
  rw [pow7]
  have hp : (0 : Int) < 2 ^ (7 * s) := Int.pow_pos (by decide)
  generalize (2 : Int) ^ (7 * s) = P at *
  rw [Int.emod_def n (128 * P), Int.emod_def (n / 128) P, ← Int.ediv_ediv_of_nonneg (by decide), Int.mul_sub, Int.mul_assoc]; omega
theorem uRd_pad (bits : Int) (rest : List Int) (s : Nat) (n : Int) (k : Nat) (v at_ : Int) (hk : 7 * ((k : Int) + s) < bits) :
    uRd bits (padU s n ++ rest) (7 * k) v at_ = if n % 2 ^ (7 * (s + 1)) < 2 ^ (bits - 7 * k).toNat then (v + n % 2 ^ (7 * (s + 1)) * 2 ^ (7 * k), at_ + (s + 1), 0) else (0, 0, 6) := by
  induction s generalizing n k v at_ with
  | zero =>
    have hc : ((7 * k : Nat) : Int) = 7 * (k : Int) := by omega
    have hp : (0 : Int) < 2 ^ (bits - 7 * (k : Int)).toNat := Int.pow_pos (by decide)
    simp only [padU, List.cons_append, List.nil_append, uRd, hc]
    rw [show n % 128 % 128 = n % 128 from by omega, show (2 : Int) ^ (7 * (0 + 1)) = 128 from rfl]
    by_cases h7 : bits - 7 * k < 7
    · by_cases hlt : n % 128 < 2 ^ (bits - 7 * (k : Int)).toNat
      · have hz : n % 128 / 2 ^ (bits - 7 * (k : Int)).toNat = 0 := Int.ediv_eq_zero_of_lt (by omega) hlt
        rw [if_neg (by rintro (⟨_, h⟩ | ⟨_, h⟩); exact h hz; omega), if_pos (by omega), if_pos hlt]; simp
      · have hz : n % 128 / 2 ^ (bits - 7 * (k : Int)).toNat ≠ 0 := by
          intro h
          have h2 := Int.lt_ediv_add_one_mul_self (n % 128) hp
          rw [h] at h2; omega
        rw [if_pos (.inl ⟨h7, hz⟩), if_neg hlt]
    · have hlt : n % 128 < 2 ^ (bits - 7 * (k : Int)).toNat := by
        have : (2 : Int) ^ 7 ≤ 2 ^ (bits - 7 * (k : Int)).toNat := by exact_mod_cast Nat.pow_le_pow_right (n := 2) (i := 7) (by decide) (by omega)
        omega
      rw [if_neg (by rintro (⟨h, _⟩ | ⟨_, h⟩) <;> omega), if_pos (by omega), if_pos hlt]; simp
  | succ s ih =>
    have hc : ((7 * k : Nat) : Int) = 7 * (k : Int) := by omega
    simp only [padU, List.cons_append, uRd, hc]
    rw [show (n % 128 + 128) % 128 = n % 128 from by omega, if_neg (by rintro (⟨h, _⟩ | ⟨h, _⟩) <;> omega), if_neg (by omega)]
    have := ih (n / 128) (k + 1) (v + n % 128 * 2 ^ (7 * k)) (at_ + 1) (by omega)
    rw [show 7 * (k + 1) = 7 * k + 7 from by omega] at this
    rw [this, show (bits - 7 * (k : Int)).toNat = (bits - 7 * ((k + 1 : Nat) : Int)).toNat + 7 from by omega, Int.pow_add 2 (bits - 7 * ((k + 1 : Nat) : Int)).toNat 7, emod_pow7 n (s + 1)]
    have hp : (0 : Int) < 2 ^ (bits - 7 * ((k + 1 : Nat) : Int)).toNat := Int.pow_pos (by decide)
    have hq : 0 ≤ n / 128 % 2 ^ (7 * (s + 1)) := Int.emod_nonneg _ (by have : (0 : Int) < 2 ^ (7 * (s + 1)) := Int.pow_pos (by decide); omega)
    generalize (2 : Int) ^ (bits - 7 * ((k + 1 : Nat) : Int)).toNat = P at *
    generalize n / 128 % 2 ^ (7 * (s + 1)) = q at *
    have ei : q < P ↔ n % 128 + 128 * q < P * 2 ^ 7 := by simp only [Int.reducePow]; omega
    by_cases hlt : q < P
    · rw [if_pos hlt, if_pos (ei.1 hlt), Int.pow_add]
      refine Prod.ext ?_ (Prod.ext ?_ rfl)
      · simp only
        generalize (2 : Int) ^ (7 * k) = R
        rw [Int.add_mul, Int.add_assoc, show (2 : Int) ^ 7 = 128 from rfl, Int.mul_comm R 128, ← Int.mul_assoc, Int.mul_comm q 128]
      · simp only; omega
    · rw [if_neg hlt, if_neg (fun h => hlt (ei.2 h))]
/-- a number's shortest form is a padded one -/
theorem putU_pad (n : Nat) : ∃ s, putU n = padU s n ∧ n < 2 ^ (7 * (s + 1)) := by
  induction n using Nat.strongRecOn with
  | ind n ih =>
    by_cases hn : n < 128
    · exact ⟨0, by rw [putU_small hn, padU]; congr 1; omega, by simpa using hn⟩
    · obtain ⟨s, h1, h2⟩ := ih (n / 128) (by omega)
      refine ⟨s + 1, by rw [putU_big hn, h1, padU]; simp, ?_⟩
      rw [show 7 * (s + 1 + 1) = 7 * (s + 1) + 7 from by omega, Nat.pow_add]
      have : n < 128 * (n / 128 + 1) := by omega
      have := Nat.mul_le_mul_left 128 (Nat.succ_le_of_lt h2)
      omega
/-- with its last byte marked and a zero behind it, the form has one byte more -/
theorem padU_more (s : Nat) (n : Int) (h0 : 0 ≤ n) (h : n < 2 ^ (7 * (s + 1))) : (padU s n).take s ++ [(padU s n).getD s 0 % 128 + 128] ++ [0] = padU (s + 1) n := by
  induction s generalizing n with
  | zero =>
    have : n < 128 := h
    simp [padU]; omega
  | succ s ih =>
    have := ih (n / 128) (by omega) (by rw [pow7] at h; generalize (2 : Int) ^ (7 * (s + 1)) = P at *; omega)
    conv => rhs; rw [padU]
    rw [← this]
    simp [padU]
/-- a beginning of a form is too short -/
theorem uRd_cut (bits : Int) (j n k : Nat) (v at_ : Int) (h : j < (putU n).length) (hk : 7 * ((k : Int) + j) < bits) : uRd bits ((putU n).take j) (7 * k) v at_ = (0, 0, 5) := by
  induction j generalizing n k v at_ with
  | zero => rfl
  | succ j ih =>
    by_cases hn : n < 128
    · rw [putU_small hn] at h; simp at h
    · rw [putU_big hn] at h ⊢
      have hc : ((7 * k : Nat) : Int) = 7 * (k : Int) := by omega
      rw [List.take_succ_cons]
      simp only [uRd, hc]
      rw [if_neg (by rintro (⟨h, _⟩ | ⟨h, _⟩) <;> omega), if_neg (by omega)]
      have := ih (n / 128) (k + 1) (v + ((n : Int) % 128 + 128) % 128 * 2 ^ (7 * k)) (at_ + 1) (by simpa using h) (by omega)
      rw [show 7 * (k + 1) = 7 * k + 7 from by omega] at this
      exact this
theorem sRd_cut (bits : Int) (j : Nat) (n : Int) (k : Nat) (v at_ : Int) (h : j < (putS n).length) (hk : 7 * ((k : Int) + j) < bits) : sRd bits ((putS n).take j) (7 * k) v at_ = (0, 0, 5) := by
  induction j generalizing n k v at_ with
  | zero => rfl
  | succ j ih =>
    by_cases hn : -64 ≤ n ∧ n ≤ 63
    · rw [putS_small hn] at h; simp at h
    · rw [putS_big hn] at h ⊢
      have hc : ((7 * k : Nat) : Int) = 7 * (k : Int) := by omega
      rw [List.take_succ_cons]
      simp only [sRd, hc]
      rw [if_neg (by rintro ⟨h, _⟩; omega), if_neg (by omega)]
      have := ih (n / 128) (k + 1) (v + (n % 128 + 128) % 128 * 2 ^ (7 * k)) (at_ + 1) (by simpa using h) (by omega)
      rw [show 7 * (k + 1) = 7 * k + 7 from by omega] at this
      exact this
/-- from its second byte on a form is that of a smaller number -/
theorem putU_drop (j n : Nat) (h : j < (putU n).length) : (putU n).drop j = putU (n / 2 ^ (7 * j)) := by
  induction j generalizing n with
  | zero => simp
  | succ j ih =>
    by_cases hn : n < 128
    · rw [putU_small hn] at h; simp at h
    · rw [putU_big hn] at h ⊢
      rw [List.drop_succ_cons, ih _ (by simpa using h), Nat.div_div_eq_div_mul, show 7 * (j + 1) = 7 + 7 * j from by omega, Nat.pow_add]
end Go.Proofs.Yticidhkilfkgbaa
