/- what is written is read again. -/
import Derived.Test.YticidhkilfkgbaaV4
import Derived.Test.YticidhkilfkgbaaPut
namespace Go.Proofs.Yticidhkilfkgbaa
set_option linter.unusedSimpArgs false
set_option linter.unusedVariables false
open Go Go.Abs

theorem uRd_put (bits : Int) (rest : List Int) (n k : Nat) (v at_ : Int) (hk : 7 * (k : Int) < bits) :
    uRd bits (putU n ++ rest) (7 * k) v at_ = if n < 2 ^ (bits - 7 * k).toNat then (v + n * 2 ^ (7 * k), at_ + (putU n).length, 0) else (0, 0, 6) := by
  induction n using Nat.strongRecOn generalizing k v at_ with
  | ind n ih =>
    have hc : ((7 * k : Nat) : Int) = 7 * (k : Int) := by omega
    by_cases hn : n < 128
    · rw [putU_small hn]
      simp only [List.cons_append, List.nil_append, uRd, hc, List.length_cons, List.length_nil]
      have e1 : (n : Int) % 128 = n := by omega
      rw [e1]
      by_cases h7 : bits - 7 * k < 7
      · by_cases hlt : n < 2 ^ (bits - 7 * k).toNat
        · have hz : (n : Int) / 2 ^ (bits - 7 * (k : Int)).toNat = 0 := Int.ediv_eq_zero_of_lt (by omega) (by exact_mod_cast hlt)
          rw [if_neg (by rintro (⟨_, h⟩ | ⟨_, h⟩); exact h hz; omega), if_pos (by omega), if_pos hlt]; simp
        · have hz : (n : Int) / 2 ^ (bits - 7 * (k : Int)).toNat ≠ 0 := by
            intro h
            have hp : (0 : Int) < 2 ^ (bits - 7 * (k : Int)).toNat := Int.pow_pos (by decide)
            have h2 := Int.lt_ediv_add_one_mul_self (n : Int) hp
            rw [h] at h2
            exact hlt (by have : (n : Int) < 2 ^ (bits - 7 * (k : Int)).toNat := by omega
                          exact_mod_cast this)
          rw [if_pos (.inl ⟨h7, hz⟩), if_neg hlt]
      · have hlt : n < 2 ^ (bits - 7 * k).toNat := Nat.lt_of_lt_of_le hn (Nat.pow_le_pow_right (n := 2) (i := 7) (by decide) (by omega))
        rw [if_neg (by rintro (⟨h, _⟩ | ⟨_, h⟩) <;> omega), if_pos (by omega), if_pos hlt]; simp
    · rw [putU_big hn]
      simp only [List.cons_append, uRd, hc, List.length_cons]
      have e1 : ((n : Int) % 128 + 128) % 128 = n % 128 := by omega
      rw [e1]
      by_cases h7 : bits - 7 * k ≤ 7
      · have hlt : ¬n < 2 ^ (bits - 7 * k).toNat := by
          have : 2 ^ (bits - 7 * (k : Int)).toNat ≤ 2 ^ 7 := Nat.pow_le_pow_right (by decide) (by omega)
          omega
        rw [if_pos (.inr ⟨h7, by omega⟩), if_neg hlt]
      · rw [if_neg (by rintro (⟨h, _⟩ | ⟨h, _⟩) <;> omega), if_neg (by omega)]
        have := ih (n / 128) (by omega) (k + 1) (v + (n : Int) % 128 * 2 ^ (7 * k)) (at_ + 1) (by omega)
        rw [show 7 * (k + 1) = 7 * k + 7 from by omega] at this
        rw [this]
        have ew : (bits - 7 * (k : Int)).toNat = (bits - 7 * ((k + 1 : Nat) : Int)).toNat + 7 := by omega
        rw [ew]
        have ei : (n / 128 < 2 ^ (bits - 7 * ((k + 1 : Nat) : Int)).toNat) ↔ n < 2 ^ ((bits - 7 * ((k + 1 : Nat) : Int)).toNat + 7) := by
          rw [Nat.pow_add]
          generalize 2 ^ (bits - 7 * ((k + 1 : Nat) : Int)).toNat = P
          simp only [Nat.reducePow]; omega
        by_cases hlt : n < 2 ^ ((bits - 7 * ((k + 1 : Nat) : Int)).toNat + 7)
        · rw [if_pos hlt, if_pos (ei.2 hlt)]
          refine Prod.ext ?_ (Prod.ext ?_ rfl)
          · simp only
            rw [Int.pow_add]
            have hd : (n : Int) = n % 128 + 128 * ((n / 128 : Nat) : Int) := by omega
            generalize (2 : Int) ^ (7 * k) = P
            generalize ((n / 128 : Nat) : Int) = q at *
            generalize (n : Int) % 128 = r at *
            rw [hd, Int.add_mul, Int.add_assoc]
            congr 2
            rw [show (2 : Int) ^ 7 = 128 from rfl, Int.mul_comm P, ← Int.mul_assoc, Int.mul_comm q]
          · simp only; omega
        · rw [if_neg hlt, if_neg (fun h => hlt (ei.1 h))]
theorem sRd_put (bits : Int) (rest : List Int) (n : Int) (k : Nat) (v at_ : Int) (hk : 7 * (k : Int) < bits) (h64 : bits ≤ 64) (hv0 : 0 ≤ v) (hv : v < 2 ^ (7 * k)) :
    sRd bits (putS n ++ rest) (7 * k) v at_ = if -2 ^ (bits - 7 * k - 1).toNat ≤ n ∧ n < 2 ^ (bits - 7 * k - 1).toNat then (v + n * 2 ^ (7 * k), at_ + (putS n).length, 0) else (0, 0, 6) := by
  induction hN : n.natAbs using Nat.strongRecOn generalizing n k v at_ with
  | ind N ih =>
    have hc : ((7 * k : Nat) : Int) = 7 * (k : Int) := by omega
    by_cases hs : -64 ≤ n ∧ n ≤ 63
    · rw [putS_small hs]
      simp only [List.cons_append, List.nil_append, sRd, hc, List.length_cons, List.length_nil]
      have e1 : n % 128 % 128 = n % 128 := by omega
      have e2 : sx (n % 128) = n := by unfold sx; split <;> omega
      have e3 : sext (7 * k + 7) (v + n % 128 * 2 ^ (7 * k)) = v + n * 2 ^ (7 * k) := by
        unfold sext
        rw [show 7 * k + 7 - 1 = 7 * k + 6 from by omega, Int.pow_add, Int.pow_add]
        generalize (2 : Int) ^ (7 * k) = P at *
        have h1 : n * P ≤ 63 * P := Int.mul_le_mul_of_nonneg_right hs.2 (by omega)
        have h2 : -64 * P ≤ n * P := Int.mul_le_mul_of_nonneg_right hs.1 (by omega)
        by_cases hneg : 0 ≤ n
        · rw [show n % 128 = n from by omega, if_pos (by omega)]
        · rw [show n % 128 = n + 128 from by omega, Int.add_mul, if_neg (by omega)]; omega
      rw [e1, e2, e3]
      have hp : (0 : Int) < 2 ^ (bits - 7 * (k : Int) - 1).toNat := Int.pow_pos (by decide)
      by_cases h7 : bits - 7 * k ≤ 7
      · by_cases hr : -2 ^ (bits - 7 * (k : Int) - 1).toNat ≤ n ∧ n < 2 ^ (bits - 7 * (k : Int) - 1).toNat
        · have hz : n / 2 ^ (bits - 7 * (k : Int) - 1).toNat = 0 ∨ n / 2 ^ (bits - 7 * (k : Int) - 1).toNat = -1 := by
            by_cases h0 : 0 ≤ n
            · left; exact Int.ediv_eq_zero_of_lt h0 hr.2
            · right
              have h1 := Int.lt_ediv_add_one_mul_self n hp
              have h2 := Int.ediv_mul_le n (b := 2 ^ (bits - 7 * (k : Int) - 1).toNat) (by omega)
              generalize (2 : Int) ^ (bits - 7 * (k : Int) - 1).toNat = P at *
              generalize n / P = q at *
              have h3 : q < 0 := Classical.byContradiction fun h => by
                have := Int.mul_nonneg (by omega : 0 ≤ q) (by omega : 0 ≤ P); omega
              have h4 : -2 < q := Classical.byContradiction fun h => by
                have := Int.mul_le_mul_of_nonneg_right (by omega : q + 1 ≤ -1) (by omega : 0 ≤ P); omega
              omega
          rw [if_neg (by rintro ⟨_, ⟨a, b⟩ | h⟩; exact hz.elim a b; omega), if_pos (by omega), if_pos hr]; simp
        · have hz : n / 2 ^ (bits - 7 * (k : Int) - 1).toNat ≠ 0 ∧ n / 2 ^ (bits - 7 * (k : Int) - 1).toNat ≠ -1 := by
            have h1 := Int.lt_ediv_add_one_mul_self n hp
            have h2 := Int.ediv_mul_le n (b := 2 ^ (bits - 7 * (k : Int) - 1).toNat) (by omega)
            constructor <;> intro h <;> rw [h] at h1 h2 <;> omega
          rw [if_pos ⟨h7, .inl hz⟩, if_neg hr]
      · have hr : -2 ^ (bits - 7 * (k : Int) - 1).toNat ≤ n ∧ n < 2 ^ (bits - 7 * (k : Int) - 1).toNat := by
          have : (2 : Int) ^ 6 ≤ 2 ^ (bits - 7 * (k : Int) - 1).toNat := by exact_mod_cast Nat.pow_le_pow_right (n := 2) (i := 6) (by decide) (by omega)
          omega
        rw [if_neg (by rintro ⟨h, _⟩; omega), if_pos (by omega), if_pos hr]; simp
    · rw [putS_big hs]
      simp only [List.cons_append, sRd, hc, List.length_cons]
      have e1 : (n % 128 + 128) % 128 = n % 128 := by omega
      rw [e1]
      by_cases h7 : bits - 7 * k ≤ 7
      · have hr : ¬(-2 ^ (bits - 7 * (k : Int) - 1).toNat ≤ n ∧ n < 2 ^ (bits - 7 * (k : Int) - 1).toNat) := by
          have : (2 : Int) ^ (bits - 7 * (k : Int) - 1).toNat ≤ 2 ^ 6 := by exact_mod_cast Nat.pow_le_pow_right (n := 2) (by decide) (by omega)
          omega
        rw [if_pos ⟨h7, .inr (by omega)⟩, if_neg hr]
      · rw [if_neg (by rintro ⟨h, _⟩; omega), if_neg (by omega)]
        have hb := pow_lt_mul hv0 hv (by omega : 0 ≤ n % 128) (m := 7) (by omega)
        have := ih (n / 128).natAbs (by omega) (n / 128) (k + 1) (v + n % 128 * 2 ^ (7 * k)) (at_ + 1) (by omega) hb.1 (by rw [show 7 * (k + 1) = 7 * k + 7 from by omega]; exact hb.2) rfl
        rw [show 7 * (k + 1) = 7 * k + 7 from by omega] at this
        rw [this]
        have ew : (bits - 7 * (k : Int) - 1).toNat = (bits - 7 * ((k + 1 : Nat) : Int) - 1).toNat + 7 := by omega
        rw [ew]
        have ei : (-2 ^ (bits - 7 * ((k + 1 : Nat) : Int) - 1).toNat ≤ n / 128 ∧ n / 128 < 2 ^ (bits - 7 * ((k + 1 : Nat) : Int) - 1).toNat) ↔ (-2 ^ ((bits - 7 * ((k + 1 : Nat) : Int) - 1).toNat + 7) ≤ n ∧ n < 2 ^ ((bits - 7 * ((k + 1 : Nat) : Int) - 1).toNat + 7)) := by
          rw [Int.pow_add]
          generalize (2 : Int) ^ (bits - 7 * ((k + 1 : Nat) : Int) - 1).toNat = P
          simp only [Int.reducePow]; omega
        by_cases hlt : (-2 ^ ((bits - 7 * ((k + 1 : Nat) : Int) - 1).toNat + 7) ≤ n ∧ n < 2 ^ ((bits - 7 * ((k + 1 : Nat) : Int) - 1).toNat + 7))
        · rw [if_pos hlt, if_pos (ei.2 hlt)]
          refine Prod.ext ?_ (Prod.ext ?_ rfl)
          · simp only
            rw [Int.pow_add]
            have hd : n = n % 128 + 128 * (n / 128) := by omega
            generalize (2 : Int) ^ (7 * k) = P
            generalize n / 128 = q at *
            generalize n % 128 = r at *
            rw [hd, Int.add_mul, Int.add_assoc]
            congr 2
            rw [show (2 : Int) ^ 7 = 128 from rfl, Int.mul_comm P, ← Int.mul_assoc, Int.mul_comm q]
          · simp only; omega
        · rw [if_neg hlt, if_neg (fun h => hlt (ei.1 h))]
end Go.Proofs.Yticidhkilfkgbaa
