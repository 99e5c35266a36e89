/- Forms of numbers with a sign, padded; which form is the shortest. -/
import Derived.Test.YticidhkilfkgbaaV4
import Derived.Test.YticidhkilfkgbaaPad
namespace Go.Proofs.Yticidhkilfkgbaa
set_option linter.unusedSimpArgs false
set_option linter.unusedVariables false
open Go Go.Abs

def rangeU (s : Nat) (n : Int) : Prop := n < 2 ^ (7 * (s + 1))
def rangeS (s : Nat) (n : Int) : Prop := -(64 * 2 ^ (7 * s)) ≤ n ∧ n < 64 * 2 ^ (7 * s)
theorem rangeU_succ (s : Nat) (n : Int) : rangeU (s + 1) n ↔ rangeU s (n / 128) := by
  unfold rangeU; rw [pow7 (s + 1)]; generalize (2 : Int) ^ (7 * (s + 1)) = P; omega
theorem rangeS_succ (s : Nat) (n : Int) : rangeS (s + 1) n ↔ rangeS s (n / 128) := by
  unfold rangeS; rw [pow7 s]; generalize (2 : Int) ^ (7 * s) = P; omega
theorem rangeS_0 (n : Int) : rangeS 0 n ↔ -64 ≤ n ∧ n ≤ 63 := by
  unfold rangeS; simp only [Nat.mul_zero, Int.pow_zero, Int.mul_one]; omega
theorem rangeU_0 (n : Int) : rangeU 0 n ↔ n < 128 := Iff.rfl
theorem putS_pad (n : Int) : ∃ s, putS n = padU s n ∧ rangeS s n ∧ ∀ t, t < s → ¬rangeS t n := by
  induction h : n.natAbs using Nat.strongRecOn generalizing n with
  | ind N ih =>
    by_cases hn : -64 ≤ n ∧ n ≤ 63
    · exact ⟨0, by rw [putS_small hn, padU], (rangeS_0 n).2 hn, fun t ht => absurd ht (Nat.not_lt_zero _)⟩
    · obtain ⟨s, h1, h2, h3⟩ := ih (n / 128).natAbs (by omega) _ rfl
      refine ⟨s + 1, by rw [putS_big hn, h1, padU], (rangeS_succ _ _).2 h2, fun t ht => ?_⟩
      cases t with
      | zero => exact fun h => hn ((rangeS_0 n).1 h)
      | succ t => exact fun h => h3 t (by omega) ((rangeS_succ _ _).1 h)
theorem putU_least (n : Nat) : ∃ s, putU n = padU s n ∧ rangeU s n ∧ ∀ t, t < s → ¬rangeU t n := by
  induction n using Nat.strongRecOn with
  | ind n ih =>
    by_cases hn : n < 128
    · exact ⟨0, by rw [putU_small hn, padU]; congr 1; omega, (rangeU_0 _).2 (by omega), fun t ht => absurd ht (Nat.not_lt_zero _)⟩
    · obtain ⟨s, h1, h2, h3⟩ := ih (n / 128) (by omega)
      have e : ((n / 128 : Nat) : Int) = (n : Int) / 128 := by omega
      rw [e] at h1 h2 h3
      refine ⟨s + 1, by rw [putU_big hn, h1, padU], (rangeU_succ _ _).2 h2, fun t ht => ?_⟩
      cases t with
      | zero => exact fun h => hn (by have := (rangeU_0 _).1 h; omega)
      | succ t => exact fun h => h3 t (by omega) ((rangeU_succ _ _).1 h)
theorem putU_is {n s : Nat} (h : rangeU s n) (hl : ∀ t, t < s → ¬rangeU t n) : putU n = padU s n := by
  obtain ⟨t, h1, h2, h3⟩ := putU_least n
  have : s = t := by
    rcases Nat.lt_trichotomy s t with h' | h' | h'
    · exact absurd h (h3 s h')
    · exact h'
    · exact absurd h2 (hl t h')
  rw [this, h1]
theorem putS_is {n : Int} {s : Nat} (h : rangeS s n) (hl : ∀ t, t < s → ¬rangeS t n) : putS n = padU s n := by
  obtain ⟨t, h1, h2, h3⟩ := putS_pad n
  have : s = t := by
    rcases Nat.lt_trichotomy s t with h' | h' | h'
    · exact absurd h (h3 s h')
    · exact h'
    · exact absurd h2 (hl t h')
  rw [this, h1]
theorem sRd_pad (rest : List Int) (s : Nat) (n : Int) (k : Nat) (v at_ : Int) (hk : 7 * (k + s) < 64) (hr : -2 ^ (63 - 7 * k) ≤ n ∧ n < 2 ^ (63 - 7 * k)) :
    sRd 64 (padU s n ++ rest) (7 * k) v at_ = (sext (7 * (k + s) + 7) (v + n % 2 ^ (7 * (s + 1)) * 2 ^ (7 * k)), at_ + (s + 1), 0) := by
  induction s generalizing n k v at_ with
  | zero =>
    have hc : ((7 * k : Nat) : Int) = 7 * (k : Int) := by omega
    simp only [padU, List.cons_append, List.nil_append, sRd, hc]
    rw [show n % 128 % 128 = n % 128 from by omega, show (2 : Int) ^ (7 * (0 + 1)) = 128 from rfl]
    have hx : ¬(64 - 7 * (k : Int) ≤ 7 ∧ ((sx (n % 128) / 2 ^ (64 - 7 * (k : Int) - 1).toNat ≠ 0 ∧ sx (n % 128) / 2 ^ (64 - 7 * (k : Int) - 1).toNat ≠ -1) ∨ n % 128 ≥ 128)) := by
      rintro ⟨h1, h2⟩
      obtain rfl : k = 9 := by omega
      have hr' : -1 ≤ n ∧ n < 1 := hr
      rw [show (64 - 7 * ((9 : Nat) : Int) - 1).toNat = 0 from rfl] at h2
      have : n = 0 ∨ n = -1 := by omega
      rcases this with rfl | rfl <;> revert h2 <;> decide
    rw [if_neg hx, if_pos (by omega)]
    rfl
  | succ s ih =>
    have hc : ((7 * k : Nat) : Int) = 7 * (k : Int) := by omega
    simp only [padU, List.cons_append, sRd, hc]
    rw [show (n % 128 + 128) % 128 = n % 128 from by omega, if_neg (by rintro ⟨h, _⟩; omega), if_neg (by omega)]
    have := ih (n / 128) (k + 1) (v + n % 128 * 2 ^ (7 * k)) (at_ + 1) (by omega) (by
      rw [show 63 - 7 * k = (63 - 7 * (k + 1)) + 7 from by omega, Int.pow_add] at hr
      generalize (2 : Int) ^ (63 - 7 * (k + 1)) = P at *
      simp only [Int.reducePow] at hr; omega)
    rw [show 7 * (k + 1) = 7 * k + 7 from by omega] at this
    rw [this, show 7 * (k + 1 + s) + 7 = 7 * (k + (s + 1)) + 7 from by omega, emod_pow7 n (s + 1), Int.pow_add]
    refine Prod.ext ?_ (Prod.ext ?_ rfl)
    · simp only
      generalize n / 128 % 2 ^ (7 * (s + 1)) = q
      generalize (2 : Int) ^ (7 * k) = R
      congr 1
      rw [Int.add_mul, Int.add_assoc, show (2 : Int) ^ 7 = 128 from rfl, Int.mul_comm R 128, ← Int.mul_assoc, Int.mul_comm q 128]
    · simp only; omega
theorem sext_emod (s : Nat) (n : Int) : sext (7 * s + 7) (n % 2 ^ (7 * (s + 1))) = n ↔ rangeS s n := by
  unfold sext rangeS
  rw [show 7 * s + 7 - 1 = 7 * s + 6 from by omega, show 7 * s + 7 = 7 * (s + 1) from by omega, pow7, Int.pow_add]
  have hp : (0 : Int) < 2 ^ (7 * s) := Int.pow_pos (by decide)
  generalize (2 : Int) ^ (7 * s) = P at *
  simp only [Int.reducePow]
  have h1 := Int.emod_nonneg n (by omega : 128 * P ≠ 0)
  have h2 := Int.emod_lt_of_pos n (by omega : 0 < 128 * P)
  constructor
  · intro h; split at h <;> omega
  · rintro ⟨ha, hb⟩
    by_cases hn : 0 ≤ n
    · rw [Int.emod_eq_of_lt hn (by omega), if_pos (by omega)]
    · have e : n % (128 * P) = n + 128 * P := by
        rw [← Int.add_emod_right, Int.emod_eq_of_lt (by omega) (by omega)]
      rw [e, if_neg (by omega)]; omega
end Go.Proofs.Yticidhkilfkgbaa
