/- Forms that are padded, cut. -/
import Derived.Test.YteppkbaeacndiaaGCB
import Derived.Test.YteppkbaeacndiaaGJoin
import Derived.Test.YteppkbaeacndiaaDP
import Derived.Test.YteppkbaeacndiaaDB
import Derived.Test.YteppkbaeacndiaaDC
import Derived.Test.YteppkbaeacndiaaGRSplit
set_option linter.unusedSimpArgs false
set_option linter.unusedVariables false
namespace Go.Proofs.Yteppkbaeacndiaa
set_option maxRecDepth 20000
open Go Go.Abs
theorem cb62 : callable Try.prog 62 = true := by kernel_rfl
theorem cb63 : callable Try.prog 63 = true := by kernel_rfl
def padU : Nat -> Int -> List Int
  | 0, n => [n % 128]
  | s + 1, n => (n % 128 + 128) :: padU s (n / 128)
theorem padU_len (s : Nat) (n : Int) : (padU s n).length = s + 1 := by
  induction s generalizing n with
  | zero => rfl
  | succ s ih => simp [padU, ih]
theorem padU_bytes (s : Nat) (n : Int) : bytes (padU s n) := by
  induction s generalizing n with
  | zero => intro x hx; simp only [padU, List.mem_singleton] at hx; subst hx; exact ⟨by omega, by omega⟩
  | succ s ih =>
    intro x hx
    rcases List.mem_cons.1 hx with rfl | hx
    · exact ⟨by omega, by omega⟩
    · exact ih _ x hx
theorem pow7 (s : Nat) : (2 : Int) ^ (7 * (s + 1)) = 128 * 2 ^ (7 * s) := by
  rw [show 7 * (s + 1) = 7 * s + 7 from by omega, Int.pow_add, Int.mul_comm]; rfl
theorem emod_pow7 (n : Int) (s : Nat) : n % 2 ^ (7 * (s + 1)) = n % 128 + 128 * (n / 128 % 2 ^ (7 * s)) := by
  rw [pow7]
  have hp : (0 : Int) < 2 ^ (7 * s) := Int.pow_pos (by decide)
  generalize (2 : Int) ^ (7 * s) = P at *
  rw [Int.emod_def n (128 * P), Int.emod_def (n / 128) P, <- Int.ediv_ediv_of_nonneg (by decide), Int.mul_sub, Int.mul_assoc]; omega
theorem uRd_pad (bits : Int) (rest : List Int) (s : Nat) (n : Int) (k : Nat) (v at_ : Int) (hk : 7 * ((k : Int) + s) < bits) :
    uRd bits (padU s n ++ rest) (7 * k) v at_ = if n % 2 ^ (7 * (s + 1)) < 2 ^ (bits - 7 * k).toNat then (v + n % 2 ^ (7 * (s + 1)) * 2 ^ (7 * k), at_ + (s + 1), 0) else (0, 0, 6) := by
  induction s generalizing n k v at_ with
  | zero =>
    have hc : ((7 * k : Nat) : Int) = 7 * (k : Int) := by omega
    have hp : (0 : Int) < 2 ^ (bits - 7 * (k : Int)).toNat := Int.pow_pos (by decide)
    simp only [padU, List.cons_append, List.nil_append, uRd, hc]
    rw [show n % 128 % 128 = n % 128 from by omega, show (2 : Int) ^ (7 * (0 + 1)) = 128 from rfl]
    by_cases h7 : bits - 7 * k < 7
    · by_cases hlt : n % 128 < 2 ^ (bits - 7 * (k : Int)).toNat
      · have hz : n % 128 / 2 ^ (bits - 7 * (k : Int)).toNat = 0 := Int.ediv_eq_zero_of_lt (by omega) hlt
        rw [if_neg (by rintro (⟨_, h⟩ | ⟨_, h⟩); exact h hz; omega), if_pos (by omega), if_pos hlt]; simp
      · have hz : n % 128 / 2 ^ (bits - 7 * (k : Int)).toNat ≠ 0 := by
          intro h
          have h2 := Int.lt_ediv_add_one_mul_self (n % 128) hp
          rw [h] at h2; omega
        rw [if_pos (.inl ⟨h7, hz⟩), if_neg hlt]
    · have hlt : n % 128 < 2 ^ (bits - 7 * (k : Int)).toNat := by
        have : (2 : Int) ^ 7 <= 2 ^ (bits - 7 * (k : Int)).toNat := by exact_mod_cast Nat.pow_le_pow_right (n := 2) (i := 7) (by decide) (by omega)
        omega
      rw [if_neg (by rintro (⟨h, _⟩ | ⟨_, h⟩) <;> omega), if_pos (by omega), if_pos hlt]; simp
  | succ s ih =>
    have hc : ((7 * k : Nat) : Int) = 7 * (k : Int) := by omega
    simp only [padU, List.cons_append, uRd, hc]
    rw [show (n % 128 + 128) % 128 = n % 128 from by omega, if_neg (by rintro (⟨h, _⟩ | ⟨h, _⟩) <;> omega), if_neg (by omega)]
    have := ih (n / 128) (k + 1) (v + n % 128 * 2 ^ (7 * k)) (at_ + 1) (by omega)
    rw [show 7 * (k + 1) = 7 * k + 7 from by omega] at this
    rw [this, show (bits - 7 * (k : Int)).toNat = (bits - 7 * ((k + 1 : Nat) : Int)).toNat + 7 from by omega, Int.pow_add 2 (bits - 7 * ((k + 1 : Nat) : Int)).toNat 7, emod_pow7 n (s + 1)]
    have hp : (0 : Int) < 2 ^ (bits - 7 * ((k + 1 : Nat) : Int)).toNat := Int.pow_pos (by decide)
    have hq : 0 <= n / 128 % 2 ^ (7 * (s + 1)) := Int.emod_nonneg _ (by have : (0 : Int) < 2 ^ (7 * (s + 1)) := Int.pow_pos (by decide); omega)
    generalize (2 : Int) ^ (bits - 7 * ((k + 1 : Nat) : Int)).toNat = P at *
    generalize n / 128 % 2 ^ (7 * (s + 1)) = q at *
    have ei : q < P ↔ n % 128 + 128 * q < P * 2 ^ 7 := by simp only [Int.reducePow]; omega
    by_cases hlt : q < P
    · rw [if_pos hlt, if_pos (ei.1 hlt), Int.pow_add]
      refine Prod.ext ?_ (Prod.ext ?_ rfl)
      · simp only
        generalize (2 : Int) ^ (7 * k) = R
        rw [Int.add_mul, Int.add_assoc, show (2 : Int) ^ 7 = 128 from rfl, Int.mul_comm R 128, <- Int.mul_assoc, Int.mul_comm q 128]
      · simp only; omega
    · rw [if_neg hlt, if_neg (fun h => hlt (ei.2 h))]
end Go.Proofs.Yteppkbaeacndiaa
namespace Go.Proofs.Yteppkbaeacndiaa
set_option maxRecDepth 20000
open Go Go.Abs
def rangeU (s : Nat) (n : Int) : Prop := n < 2 ^ (7 * (s + 1))
def rangeS (s : Nat) (n : Int) : Prop := -(64 * 2 ^ (7 * s)) <= n /\ n < 64 * 2 ^ (7 * s)
theorem rangeU_succ (s : Nat) (n : Int) : rangeU (s + 1) n ↔ rangeU s (n / 128) := by
  unfold rangeU; rw [pow7 (s + 1)]; generalize (2 : Int) ^ (7 * (s + 1)) = P; omega
theorem rangeS_succ (s : Nat) (n : Int) : rangeS (s + 1) n ↔ rangeS s (n / 128) := by
  unfold rangeS; rw [pow7 s]; generalize (2 : Int) ^ (7 * s) = P; omega
theorem rangeS_0 (n : Int) : rangeS 0 n ↔ -64 <= n /\ n <= 63 := by
  unfold rangeS; simp only [Nat.mul_zero, Int.pow_zero, Int.mul_one]; omega
theorem rangeU_0 (n : Int) : rangeU 0 n ↔ n < 128 := Iff.rfl
theorem putS_pad (n : Int) : ∃ s, putS n = padU s n /\ rangeS s n /\ ∀ t, t < s -> ¬rangeS t n := by
  induction h : n.natAbs using Nat.strongRecOn generalizing n with
  | ind N ih =>
    by_cases hn : -64 <= n /\ n <= 63
    · exact ⟨0, by rw [putS_small hn, padU], (rangeS_0 n).2 hn, fun t ht => absurd ht (Nat.not_lt_zero _)⟩
    · obtain ⟨s, h1, h2, h3⟩ := ih (n / 128).natAbs (by omega) _ rfl
      refine ⟨s + 1, by rw [putS_big hn, h1, padU], (rangeS_succ _ _).2 h2, fun t ht => ?_⟩
      cases t with
      | zero => exact fun h => hn ((rangeS_0 n).1 h)
      | succ t => exact fun h => h3 t (by omega) ((rangeS_succ _ _).1 h)
theorem putU_least (n : Nat) : ∃ s, putU n = padU s n /\ rangeU s n /\ ∀ t, t < s -> ¬rangeU t n := by
  induction n using Nat.strongRecOn with
  | ind n ih =>
    by_cases hn : n < 128
    · exact ⟨0, by rw [putU_small hn, padU]; congr 1; omega, (rangeU_0 _).2 (by omega), fun t ht => absurd ht (Nat.not_lt_zero _)⟩
    · obtain ⟨s, h1, h2, h3⟩ := ih (n / 128) (by omega)
      have e : ((n / 128 : Nat) : Int) = (n : Int) / 128 := by omega
      rw [e] at h1 h2 h3
      refine ⟨s + 1, by rw [putU_big hn, h1, padU], (rangeU_succ _ _).2 h2, fun t ht => ?_⟩
      cases t with
      | zero => exact fun h => hn (by have := (rangeU_0 _).1 h; omega)
      | succ t => exact fun h => h3 t (by omega) ((rangeU_succ _ _).1 h)
theorem putU_is {n s : Nat} (h : rangeU s n) (hl : ∀ t, t < s -> ¬rangeU t n) : putU n = padU s n := by
  obtain ⟨t, h1, h2, h3⟩ := putU_least n
  have : s = t := by
    rcases Nat.lt_trichotomy s t with h' | h' | h'
    · exact absurd h (h3 s h')
    · exact h'
    · exact absurd h2 (hl t h')
  rw [this, h1]
theorem putS_is {n : Int} {s : Nat} (h : rangeS s n) (hl : ∀ t, t < s -> ¬rangeS t n) : putS n = padU s n := by
  obtain ⟨t, h1, h2, h3⟩ := putS_pad n
  have : s = t := by
    rcases Nat.lt_trichotomy s t with h' | h' | h'
    · exact absurd h (h3 s h')
    · exact h'
    · exact absurd h2 (hl t h')
  rw [this, h1]
theorem sRd_pad (rest : List Int) (s : Nat) (n : Int) (k : Nat) (v at_ : Int) (hk : 7 * (k + s) < 64) (hr : -2 ^ (63 - 7 * k) <= n /\ n < 2 ^ (63 - 7 * k)) :
    sRd 64 (padU s n ++ rest) (7 * k) v at_ = (sext (7 * (k + s) + 7) (v + n % 2 ^ (7 * (s + 1)) * 2 ^ (7 * k)), at_ + (s + 1), 0) := by
  induction s generalizing n k v at_ with
  | zero =>
    have hc : ((7 * k : Nat) : Int) = 7 * (k : Int) := by omega
    simp only [padU, List.cons_append, List.nil_append, sRd, hc]
    rw [show n % 128 % 128 = n % 128 from by omega, show (2 : Int) ^ (7 * (0 + 1)) = 128 from rfl]
    have hx : ¬(64 - 7 * (k : Int) <= 7 /\ ((sx (n % 128) / 2 ^ (64 - 7 * (k : Int) - 1).toNat ≠ 0 /\ sx (n % 128) / 2 ^ (64 - 7 * (k : Int) - 1).toNat ≠ -1) \/ n % 128 >= 128)) := by
      rintro ⟨h1, h2⟩
      obtain rfl : k = 9 := by omega
      have hr' : -1 <= n /\ n < 1 := hr
      rw [show (64 - 7 * ((9 : Nat) : Int) - 1).toNat = 0 from rfl] at h2
      have : n = 0 \/ n = -1 := by omega
      rcases this with rfl | rfl <;> revert h2 <;> decide
    rw [if_neg hx, if_pos (by omega)]
    rfl
  | succ s ih =>
    have hc : ((7 * k : Nat) : Int) = 7 * (k : Int) := by omega
    simp only [padU, List.cons_append, sRd, hc]
    rw [show (n % 128 + 128) % 128 = n % 128 from by omega, if_neg (by rintro ⟨h, _⟩; omega), if_neg (by omega)]
    have := ih (n / 128) (k + 1) (v + n % 128 * 2 ^ (7 * k)) (at_ + 1) (by omega) (by
      rw [show 63 - 7 * k = (63 - 7 * (k + 1)) + 7 from by omega, Int.pow_add] at hr
      generalize (2 : Int) ^ (63 - 7 * (k + 1)) = P at *
      simp only [Int.reducePow] at hr; omega)
    rw [show 7 * (k + 1) = 7 * k + 7 from by omega] at this
    rw [this, show 7 * (k + 1 + s) + 7 = 7 * (k + (s + 1)) + 7 from by omega, emod_pow7 n (s + 1), Int.pow_add]
    refine Prod.ext ?_ (Prod.ext ?_ rfl)
    · simp only
      generalize n / 128 % 2 ^ (7 * (s + 1)) = q
      generalize (2 : Int) ^ (7 * k) = R
      congr 1
      rw [Int.add_mul, Int.add_assoc, show (2 : Int) ^ 7 = 128 from rfl, Int.mul_comm R 128, <- Int.mul_assoc, Int.mul_comm q 128]
    · simp only; omega
theorem sext_emod (s : Nat) (n : Int) : sext (7 * s + 7) (n % 2 ^ (7 * (s + 1))) = n ↔ rangeS s n := by
  unfold sext rangeS
  rw [show 7 * s + 7 - 1 = 7 * s + 6 from by omega, show 7 * s + 7 = 7 * (s + 1) from by omega, pow7, Int.pow_add]
  have hp : (0 : Int) < 2 ^ (7 * s) := Int.pow_pos (by decide)
  generalize (2 : Int) ^ (7 * s) = P at *
  simp only [Int.reducePow]
  have h1 := Int.emod_nonneg n (by omega : 128 * P ≠ 0)
  have h2 := Int.emod_lt_of_pos n (by omega : 0 < 128 * P)
  constructor
  · intro h; split at h <;> omega
  · rintro ⟨ha, hb⟩
    by_cases hn : 0 <= n
    · rw [Int.emod_eq_of_lt hn (by omega), if_pos (by omega)]
    · have e : n % (128 * P) = n + 128 * P := by
        rw [<- Int.add_emod_right, Int.emod_eq_of_lt (by omega) (by omega)]
      rw [e, if_neg (by omega)]; omega
end Go.Proofs.Yteppkbaeacndiaa
namespace Go.Proofs.Yteppkbaeacndiaa
set_option maxRecDepth 20000
open Go Go.Abs Nat
attribute [local irreducible] AW AWL AC FW CW CWr IntKind.wrap
def FA (n : Int) (sg : Bool) (size : Int) : St := { n := 86, slots := [(0, .int .u64 n), (1, .bool sg), (4, .ref 4 0 0 1), (5, .int .i64 size)], mem := [(4, ⟨true, []⟩)] }
def FB (n : Int) (sg : Bool) (size : Int) (len : Nat) (c : List V) (k : Int) : St := { n := 86, slots := [(0, .int .u64 n), (1, .bool sg), (4, .ref 4 0 0 1), (5, .int .i64 size), (6, .ref 6 0 len 1), (7, .int .i64 k)], mem := [(4, ⟨true, []⟩), (6, ⟨true, c⟩)] }
def FC (n : Int) (sg : Bool) (size : Int) (len : Nat) (c : List V) (k x i : Int) : St := { n := 86, slots := [(0, .int .u64 n), (1, .bool sg), (4, .ref 4 0 0 1), (5, .int .i64 size), (6, .ref 6 0 len 1), (7, .int .i64 k), (8, .int .u8 x), (9, .int .i64 i)], mem := [(4, ⟨true, []⟩), (6, ⟨true, c⟩)] }
theorem padU_getD (s : Nat) (N : Int) (k : Nat) (h : k <= s) : (padU s N).getD k 0 = N / 2 ^ (7 * k) % 128 + if k < s then 128 else 0 := by
  induction s generalizing N k with
  | zero => obtain rfl : k = 0 := by omega
            simp [padU]
  | succ s ih =>
    cases k with
    | zero => simp [padU]
    | succ k =>
      rw [padU, List.getD_cons_succ, ih _ _ (by omega), pow7, Int.ediv_ediv_of_nonneg (by decide)]
      simp
def inR (sg : Bool) (N : Int) : Prop := (sg = true -> -2 ^ 63 <= N /\ N < 2 ^ 63) /\ (sg = false -> 0 <= N /\ N < 2 ^ 64)
theorem big_ediv {N : Int} (h0 : 0 <= N) {a at_ : Nat} (h : N < 2 ^ a) (h2 : a <= at_) : N / 2 ^ at_ = 0 := by
  refine Int.ediv_eq_zero_of_lt h0 (Int.lt_of_lt_of_le h ?_)
  exact_mod_cast Nat.pow_le_pow_right (by decide) h2
theorem neg_ediv {N : Int} (h0 : N < 0) {a at_ : Nat} (h : -2 ^ a <= N) (h2 : a <= at_) : N / 2 ^ at_ = -1 := by
  have hp : (2 : Int) ^ a <= 2 ^ at_ := by exact_mod_cast Nat.pow_le_pow_right (by decide) h2
  have hq : (0 : Int) < 2 ^ at_ := Int.pow_pos (by decide)
  generalize (2 : Int) ^ at_ = P at *
  have h1 := Int.emod_add_mul_ediv N P
  have h3 := Int.emod_nonneg N (by omega : P ≠ 0)
  have h4 := Int.emod_lt_of_pos N hq
  have : N / P < 0 := Int.ediv_neg_of_neg_of_pos h0 hq
  have h5 : -1 <= N / P := by
    rw [Int.le_ediv_iff_mul_le hq]; omega
  omega
theorem bit_lo (N : Int) (at_ : Nat) (h : at_ < 64) : N % 2 ^ 64 / 2 ^ at_ % 2 = N / 2 ^ at_ % 2 := by
  have hq : (0 : Int) < 2 ^ at_ := Int.pow_pos (by decide)
  have e : (2 : Int) ^ 64 = 2 ^ at_ * (2 * 2 ^ (63 - at_)) := by
    rw [<- Int.mul_assoc, Int.mul_comm (2 ^ at_) 2, Int.mul_assoc, <- Int.pow_add, show at_ + (63 - at_) = 63 from by omega]; rfl
  rw [e, Int.emod_def N, Int.mul_assoc, Int.sub_mul_ediv_left _ _ (by omega)]
  rw [Int.mul_assoc]; omega
theorem bit_hi {sg : Bool} {N : Int} (h : inR sg N) (at_ : Nat) (h2 : 64 <= at_) : N / 2 ^ at_ % 2 = if sg = true then N % 2 ^ 64 / 2 ^ 63 else 0 := by
  cases sg with
  | false =>
    have := h.2 rfl
    rw [big_ediv this.1 this.2 h2]; rfl
  | true =>
    have := h.1 rfl
    rw [if_pos rfl]
    by_cases h0 : 0 <= N
    · rw [big_ediv h0 this.2 (by omega)]
      simp only [Int.reducePow] at this ⊢; omega
    · rw [neg_ediv (by omega) this.1 (by omega)]
      simp only [Int.reducePow] at this ⊢; omega
theorem or_bit {x v : Int} {i : Nat} (hx : 0 <= x /\ x < 2 ^ i) (hv : v = 0 \/ v = 1) (hi : i < 7) : bitsOp .or .u8 x (IntKind.u8.wrap (IntKind.i64.wrap (v * 2 ^ min i IntKind.i64.bits))) = x + v * 2 ^ i := by
  have e2 : min i IntKind.i64.bits = i := Nat.min_eq_left (by show _ <= 64; omega)
  have hp : (0 : Int) < 2 ^ i := Int.pow_pos (by decide)
  have hp2 : (2 : Int) ^ i <= 64 := by
    have : (2 : Nat) ^ i <= 2 ^ 6 := Nat.pow_le_pow_right (by decide) (by omega)
    exact_mod_cast this
  rw [e2]
  have e3 : IntKind.i64.wrap (v * 2 ^ i) = v * 2 ^ i := wrap64_id _ (by rcases hv with rfl | rfl <;> omega) (by rcases hv with rfl | rfl <;> omega)
  rw [e3, show IntKind.u8.wrap (v * 2 ^ i) = v * 2 ^ i from wrap_in rfl (by rcases hv with rfl | rfl <;> omega) (by show _ < (256 : Int); rcases hv with rfl | rfl <;> omega)]
  exact or_add (k := .u8) i hx.1 hx.2 (by omega) (by show _ < (256 : Int); rcases hv with rfl | rfl <;> omega) (.inl rfl)
theorem step_bit (y : Int) (i : Nat) : y % 2 ^ i + y / 2 ^ i % 2 * 2 ^ i = y % 2 ^ (i + 1) := by
  have hp : (0 : Int) < 2 ^ i := Int.pow_pos (by decide)
  rw [Int.pow_succ, Int.emod_def y, Int.emod_def (y / 2 ^ i), Int.emod_def y (2 ^ i * 2), <- Int.ediv_ediv_of_nonneg (by omega)]
  generalize y / 2 ^ i = q
  generalize (2 : Int) ^ i = P at *
  rw [Int.sub_mul, Int.mul_comm q P, Int.mul_assoc P 2, Int.mul_comm (2 * (q / 2)) P]; omega
def putF (sg : Bool) (N : Int) : List Int := if sg = true then putS N else putU N.toNat
def rangeF (sg : Bool) (s : Nat) (N : Int) : Prop := if sg = true then rangeS s N else rangeU s N
theorem putF_is {sg : Bool} {N : Int} (h0 : inR sg N) {s : Nat} (h : rangeF sg s N) (hl : ∀ t, t < s -> ¬rangeF sg t N) : padU s N = putF sg N := by
  cases sg with
  | true => exact (putS_is h hl).symm
  | false =>
    have e : ((N.toNat : Nat) : Int) = N := Int.toNat_of_nonneg (h0.2 rfl).1
    have := putU_is (n := N.toNat) (s := s) (by rw [e]; exact h) (fun t ht => by rw [e]; exact hl t ht)
    rw [e] at this; exact this.symm
theorem range9 {sg : Bool} {N : Int} (h0 : inR sg N) : rangeF sg 9 N := by
  cases sg with
  | true => have := h0.1 rfl; unfold rangeF rangeS; simp only [Int.reducePow, if_true] at this ⊢; simp only [Nat.reduceMul, Int.reducePow]; omega
  | false => have := h0.2 rfl; unfold rangeF rangeU; simp only [Nat.reduceAdd, Nat.reduceMul, Int.reducePow] at this ⊢; simp; omega
theorem back_u {N : Int} (h0 : inR false N) {s : Nat} (hs : s <= 9) : uSpec (padU s N) 0 64 = (N % 2 ^ (7 * (s + 1)), ((s + 1 : Nat) : Int), 0) /\ (N % 2 ^ (7 * (s + 1)) = N % 2 ^ 64 ↔ rangeF false s N) := by
  have h := h0.2 rfl
  have hl := padU_len s N
  have hp : (0 : Int) < 2 ^ (7 * (s + 1)) := Int.pow_pos (by decide)
  have hm : N % 2 ^ (7 * (s + 1)) <= N := by
    have h9 := Int.emod_add_mul_ediv N (2 ^ (7 * (s + 1)))
    have h8 : 0 <= 2 ^ (7 * (s + 1)) * (N / 2 ^ (7 * (s + 1))) := Int.mul_nonneg (by omega) (Int.ediv_nonneg h.1 (by omega))
    omega
  have hr := uRd_pad 64 [] s N 0 0 0 (by omega)
  rw [List.append_nil, show 7 * 0 = 0 from rfl, if_pos (by show _ < (2 : Int) ^ 64; omega)] at hr
  refine ⟨?_, ?_⟩
  · rw [uSpec, if_neg (by omega), show List.drop (Int.toNat 0) (padU s N) = padU s N from rfl, hr]
    refine Prod.ext ?_ (Prod.ext ?_ rfl)
    · simp
    · simp only; omega
  · unfold rangeF rangeU
    simp only [if_false, Bool.false_eq_true]
    rw [Int.emod_eq_of_lt h.1 h.2]
    constructor
    · intro e; have := Int.emod_lt_of_pos N hp; omega
    · intro e; exact Int.emod_eq_of_lt h.1 e
theorem back_s {N : Int} (h0 : inR true N) {s : Nat} (hs : s <= 9) : ∃ z, sSpec (padU s N) 0 64 = (z, ((s + 1 : Nat) : Int), 0) /\ (IntKind.u64.wrap z = N % 2 ^ 64 ↔ rangeF true s N) := by
  have h := h0.1 rfl
  have hl := padU_len s N
  have hr := sRd_pad [] s N 0 0 0 (by omega) h
  rw [List.append_nil, show 7 * 0 = 0 from rfl] at hr
  have hse := sext_emod s N
  refine ⟨sext (7 * s + 7) (N % 2 ^ (7 * (s + 1))), ?_, ?_⟩
  · rw [sSpec, if_neg (by omega), show List.drop (Int.toNat 0) (padU s N) = padU s N from rfl, hr]
    refine Prod.ext ?_ (Prod.ext ?_ rfl)
    · simp
    · simp only; omega
  · have hb : -2 ^ 63 <= sext (7 * s + 7) (N % 2 ^ (7 * (s + 1))) /\ sext (7 * s + 7) (N % 2 ^ (7 * (s + 1))) < 2 ^ 63 := by
      by_cases h9 : s = 9
      · subst h9
        rw [hse.2 (by have := range9 h0; exact this)]; exact h
      · have hp : (0 : Int) < 2 ^ (7 * (s + 1)) := Int.pow_pos (by decide)
        have h1 := Int.emod_nonneg N (by omega : (2 : Int) ^ (7 * (s + 1)) ≠ 0)
        have h2 := Int.emod_lt_of_pos N hp
        have h3 : (2 : Int) ^ (7 * (s + 1)) <= 2 ^ 63 := by exact_mod_cast Nat.pow_le_pow_right (n := 2) (by decide) (by omega)
        have h4 : (2 : Int) ^ (7 * s + 7) = 2 ^ (7 * (s + 1)) := rfl
        unfold sext
        rw [h4]
        split <;> omega
    rw [show (rangeF true s N) = rangeS s N from rfl, <- hse, IntKind.wrap_u64]
    simp only [Int.reducePow] at hb h ⊢
    omega
theorem take_nextF (s : Nat) (N : Int) (k : Nat) (h : k <= s) : (padU s N).take (k + 1) = (padU s N).take k ++ [N / 2 ^ (7 * k) % 128 + if k < s then 128 else 0] := by
  rw [take_snoc _ _ (by rw [padU_len]; omega), padU_getD s N k h]
theorem MForm.NM : type_of% @NSX /\ type_of% @St.keepS.eq_1 /\ type_of% @TY /\ type_of% @SLS /\ type_of% @nums_length /\ type_of% @FA.eq_1 /\ type_of% @FB.eq_1 /\ type_of% @FC.eq_1 :=
  ⟨NSX, St.keepS.eq_1, @TY, @SLS, @nums_length, @FA.eq_1, @FB.eq_1, @FC.eq_1⟩
open MForm
theorem K1Form.kp {P : Program} {c : Code} {Q : Exit -> St -> Prop} {st : St} (h : AW P c Q (st.keepS [0, 1, 4, 5, 6, 7, 8, 9, 10, 11, 12, 14, 15, 17])) : AW P c Q st := AW.keepS _ h
theorem K1Form.cl {p : Prop} (h : p := by
  first
    | refine AWL.frzG rfl rfl rfl ?_
    | refine AWL.cC (f := 57) cb57 rfl rfl rfl rfl rfl rfl (hUc) ?_
    | refine AWL.cC (f := 39) cb39 rfl rfl rfl rfl rfl rfl (hSc) ?_
  all_goals (apply_rules (newGoals := .nonDependentOnly) only [dep])
  all_goals constructor) : p := h
theorem K1Form.sd {p : Prop} (h : p := by first | exact sd7e6d25) : p := h
open K1Form in
set_option maxRecDepth 4000 in
set_option maxHeartbeats 8000000 in
theorem form_ok (sg : Bool) (N : Int) (hN : inR sg N) :
    AC Try.prog 62 [.int .u64 (N % 2 ^ 64), .bool sg] (fun r m => r = .view (putF sg N).length 1 (nums .u8 (putF sg N)) /\ m = []) := by
  refine AC.enter Try.func62 rfl (Nat.le_of_ble_eq_true rfl) ?_
  simp only [Try.f62]
  have hUc : True := trivial
  have hSc : True := trivial
  have nx : True := trivial
  refine' st53a66f
  refine AW.loop [0, 1, 4, 5] [4] (fun t st => ∃ s : Nat, st = FA (N % 2 ^ 64) sg ((s : Int) + 1) /\ s <= 9 /\ t = 10 - s /\ ∀ t, t < s -> ¬rangeF sg t N) ?_ ?_
  · exact ⟨_, 0, rfl, by omega, rfl, fun t ht => absurd ht (Nat.not_lt_zero _)⟩
  rintro t st ⟨s, rfl, hs, rfl, hno⟩
  have hl := padU_len s N
  have hby := padU_bytes s N
  have hUc := ru_at (padU s N) hby (by omega) 0 64
  rw [hl] at hUc
  have hSc := rs_at (padU s N) hby (by omega) 0 64
  rw [hl] at hSc
  have nx : True := trivial
  refine' st53a66f
  refine AW.loop [0, 1, 4, 5, 6, 7] [4, 6] (fun t st => ∃ (k : Nat) (c : List V), st = FB (N % 2 ^ 64) sg ((s : Int) + 1) k c k /\ k <= s + 1 /\ t = s + 1 - k /\ c = nums .u8 ((padU s N).take k)) ?_ ?_
  · exact ⟨_, 0, _, rfl, by omega, rfl, rfl⟩
  rintro t st ⟨k, c, rfl, hk, rfl, rfl⟩
  have htl : ((padU s N).take k).length = k := by rw [List.length_take]; omega
  by_cases hks : k < s + 1
  · have nx : True := trivial
    refine' st53a66f
    refine AW.loop [0, 1, 4, 5, 6, 7, 8, 9] [4, 6] (fun t st => ∃ (i : Nat), st = FC (N % 2 ^ 64) sg ((s : Int) + 1) k (nums .u8 ((padU s N).take k)) k (N / 2 ^ (7 * k) % 2 ^ i) i /\ i <= 7 /\ t = 7 - i) ?_ ?_
    · exact ⟨_, 0, by rw [Int.pow_zero, Int.emod_one]; rfl, by omega, rfl⟩
    rintro t st ⟨i, rfl, hi, rfl⟩
    have hp : (0 : Int) < 2 ^ i := Int.pow_pos (by decide)
    have hx : 0 <= N / 2 ^ (7 * k) % 2 ^ i /\ N / 2 ^ (7 * k) % 2 ^ i < 2 ^ i := ⟨Int.emod_nonneg _ (by omega), Int.emod_lt_of_pos _ hp⟩
    have e5 : IntKind.i64.wrap ((k : Int) + 1) = ((k + 1 : Nat) : Int) := wrap64_id _ (by omega) (by omega)
    by_cases hi7 : i < 7
    · have hst := step_bit (N / 2 ^ (7 * k)) i
      have hpe : N / 2 ^ (7 * k) / 2 ^ i = N / 2 ^ (7 * k + i) := by
        rw [Int.pow_add, <- Int.ediv_ediv_of_nonneg (by exact Int.le_of_lt (Int.pow_pos (by decide)))]
      have hv : N / 2 ^ (7 * k + i) % 2 = 0 \/ N / 2 ^ (7 * k + i) % 2 = 1 := by omega
      have hor := or_bit hx hv hi7
      rw [<- hpe, hst, hpe] at hor
      have e1 : IntKind.i64.wrap (7 * (k : Int)) = 7 * k := wrap64_id _ (by omega) (by omega)
      have e2 : IntKind.i64.wrap (7 * (k : Int) + (i : Int)) = ((7 * k + i : Nat) : Int) := wrap64_id _ (by omega) (by omega)
      have e3 : IntKind.u64.wrap ((7 * k + i : Nat) : Int) = ((7 * k + i : Nat) : Int) := wrap_in rfl (by omega) (by show _ < (18446744073709551616 : Int); omega)
      have e4 : IntKind.i64.wrap ((i : Int) + 1) = ((i + 1 : Nat) : Int) := wrap64_id _ (by omega) (by omega)
      have hn0 : 0 <= N % 2 ^ 64 := Int.emod_nonneg _ (by decide)
      have e6 : 7 * k + i < 64 -> (N % 2 ^ 64).fdiv (2 ^ min (7 * k + i) IntKind.u64.bits) = N % 2 ^ 64 / 2 ^ (7 * k + i) := fun h => by
        rw [show min (7 * k + i) IntKind.u64.bits = 7 * k + i from Nat.min_eq_left (by show _ <= 64; omega), fdiv_pow _ _ hn0]
      have e7 : (N % 2 ^ 64 / 2 ^ (7 * k + i)).tmod 2 = N % 2 ^ 64 / 2 ^ (7 * k + i) % 2 := Int.tmod_eq_emod_of_nonneg (Int.ediv_nonneg hn0 (Int.le_of_lt (Int.pow_pos (by decide))))
      have e8 : 7 * k + i < 64 -> IntKind.i64.wrap (N % 2 ^ 64 / 2 ^ (7 * k + i) % 2) = N / 2 ^ (7 * k + i) % 2 := fun h => by
        rw [bit_lo N _ h]; exact wrap64_id _ (by omega) (by omega)
      have e9 : (N % 2 ^ 64).fdiv (2 ^ min 63 IntKind.u64.bits) = N % 2 ^ 64 / 2 ^ 63 := by
        rw [show min 63 IntKind.u64.bits = 63 from rfl, fdiv_pow _ _ hn0]
      have e11 : IntKind.u64.wrap (i : Int) = i := wrap_in rfl (by omega) (by show _ < (18446744073709551616 : Int); omega)
      have hh := bit_hi hN (7 * k + i)
      by_cases h64 : 7 * k + i < 64
      · have e6 := e6 h64
        have e8 := e8 h64
        have nx : type_of% @e1 /\ type_of% @e2 /\ type_of% @e3 /\ type_of% @e4 /\ type_of% @e5 /\ type_of% @e6 /\ type_of% @e7 /\ type_of% @e8 /\ type_of% @hor /\ type_of% @e11 /\ True := ⟨@e1, ⟨@e2, ⟨@e3, ⟨@e4, ⟨@e5, ⟨@e6, ⟨@e7, ⟨@e8, ⟨@hor, ⟨@e11, trivial⟩⟩⟩⟩⟩⟩⟩⟩⟩⟩
        refine' st53a66f
        all_goals try simp (disch := omega) only [NM, Nat.reduceBEq, reduceAdd, reduceMul, Int.reduceToNat, reduceSub, List.set_cons_zero, List.set_cons_succ, e1, e2, e3, e4, e5, e6, e7, e8, hor, e11]
        all_goals first
          | exact ⟨7 - (i + 1), by omega, i + 1, rfl, by omega, rfl⟩
          | (exfalso; omega) | trace_state
      · have hh := hh (by omega)
        cases sg with
        | false =>
          rw [if_neg (by decide)] at hh
          rw [hh] at hor
          have nx : type_of% @e1 /\ type_of% @e2 /\ type_of% @e3 /\ type_of% @e4 /\ type_of% @e5 /\ type_of% @hor /\ type_of% @e11 /\ True := ⟨@e1, ⟨@e2, ⟨@e3, ⟨@e4, ⟨@e5, ⟨@hor, ⟨@e11, trivial⟩⟩⟩⟩⟩⟩⟩
          refine' st53a66f
          all_goals try simp (disch := omega) only [NM, Nat.reduceBEq, reduceAdd, reduceMul, Int.reduceToNat, reduceSub, List.set_cons_zero, List.set_cons_succ, e1, e2, e3, e4, e5, hor, e11]
          all_goals first
            | exact ⟨7 - (i + 1), by omega, i + 1, rfl, by omega, rfl⟩
            | (exfalso; omega) | trace_state
        | true =>
          rw [if_pos rfl] at hh
          have e10 : IntKind.i64.wrap (N % 2 ^ 64 / 2 ^ 63) = N / 2 ^ (7 * k + i) % 2 := by rw [<- hh]; exact wrap64_id _ (by omega) (by omega)
          have nx : type_of% @e1 /\ type_of% @e2 /\ type_of% @e3 /\ type_of% @e4 /\ type_of% @e5 /\ type_of% @e9 /\ type_of% @e10 /\ type_of% @hor /\ type_of% @e11 /\ True := ⟨@e1, ⟨@e2, ⟨@e3, ⟨@e4, ⟨@e5, ⟨@e9, ⟨@e10, ⟨@hor, ⟨@e11, trivial⟩⟩⟩⟩⟩⟩⟩⟩⟩
          refine' st53a66f
          all_goals try simp (disch := omega) only [NM, Nat.reduceBEq, reduceAdd, reduceMul, Int.reduceToNat, reduceSub, List.set_cons_zero, List.set_cons_succ, e1, e2, e3, e4, e5, e9, e10, hor, e11]
          all_goals first
            | exact ⟨7 - (i + 1), by omega, i + 1, rfl, by omega, rfl⟩
            | (exfalso; omega) | trace_state
    · obtain rfl : i = 7 := by omega
      have htn := take_nextF s N k (by omega)
      have e1 : (2 : Int) ^ 7 = 128 := rfl
      have hTT : ((padU s N).take k).take k = (padU s N).take k := by rw [List.take_take, Nat.min_self]
      have e2 : IntKind.i64.wrap ((s : Int) + 1 - 1) = s := by rw [Int.add_sub_cancel]; exact wrap64_id _ (by omega) (by omega)
      have e3 : bitsOp .or .u8 (N / 2 ^ (7 * k) % 128) 128 = N / 2 ^ (7 * k) % 128 + 128 := by
        have := lowByte (N / 2 ^ (7 * k) % 128)
        rwa [show IntKind.u8.wrap (N / 2 ^ (7 * k) % 128) = N / 2 ^ (7 * k) % 128 from wrap_in rfl (by omega) (by show _ < (256 : Int); omega), show N / 2 ^ (7 * k) % 128 % 128 = N / 2 ^ (7 * k) % 128 from by omega] at this
      by_cases hk2 : k < s
      · rw [if_pos hk2] at htn
        have nx : type_of% @e1 /\ type_of% @e2 /\ type_of% @e3 /\ type_of% @e5 /\ type_of% @hTT /\ True := ⟨@e1, ⟨@e2, ⟨@e3, ⟨@e5, ⟨@hTT, trivial⟩⟩⟩⟩⟩
        refine' st53a66f
        all_goals try simp (disch := omega) only [NM, Nat.reduceBEq, reduceAdd, reduceMul, Int.reduceToNat, reduceSub, List.set_cons_zero, List.set_cons_succ, e1, e2, e3, e5, hTT]
        all_goals first
          | exact ⟨s + 1 - (k + 1), by omega, k + 1, _, rfl, by omega, rfl, by rw [htn]⟩
          | (exfalso; omega) | trace_state
      · rw [if_neg hk2, Int.add_zero] at htn
        have nx : type_of% @e1 /\ type_of% @e2 /\ type_of% @e3 /\ type_of% @e5 /\ type_of% @hTT /\ True := ⟨@e1, ⟨@e2, ⟨@e3, ⟨@e5, ⟨@hTT, trivial⟩⟩⟩⟩⟩
        refine' st53a66f
        all_goals try simp (disch := omega) only [NM, Nat.reduceBEq, reduceAdd, reduceMul, Int.reduceToNat, reduceSub, List.set_cons_zero, List.set_cons_succ, e1, e2, e3, e5, hTT]
        all_goals first
          | exact ⟨s + 1 - (k + 1), by omega, k + 1, _, rfl, by omega, rfl, by rw [htn]⟩
          | (exfalso; omega) | trace_state
  · obtain rfl : k = s + 1 := by omega
    have e0 : (padU s N).take (s + 1) = padU s N := List.take_of_length_le (by omega)
    have e5 : IntKind.i64.wrap ((s : Int) + 1 + 1) = ((s + 1 : Nat) : Int) + 1 := wrap64_id _ (by omega) (by omega)
    cases sg with
    | false =>
      obtain ⟨b1, b2⟩ := back_u hN hs
      rw [b1] at hUc
      by_cases hr : rangeF false s N
      · have b3 := b2.2 hr
        have b4 := putF_is hN hr hno
        rw [b4] at hUc e0
        have b5 : (putF false N).length = s + 1 := by rw [<- b4, hl]
        have nx : type_of% @e0 /\ type_of% @b3 /\ type_of% @b4 /\ type_of% @beq_self_eq_true.{0} /\ type_of% @decide_true /\ True := ⟨@e0, ⟨@b3, ⟨@b4, ⟨@beq_self_eq_true.{0}, ⟨@decide_true, trivial⟩⟩⟩⟩⟩
        refine' st53a66f
        all_goals first | exact ⟨trivial, trivial⟩ | exact ⟨rfl, trivial⟩ | exact ⟨rfl, rfl⟩ | exact ⟨trivial, rfl⟩ | (rw [b5]; exact ⟨rfl, trivial⟩) | (rw [b5, e0]; exact ⟨rfl, trivial⟩) | (exfalso; omega) | trace_state
      · have b3 : (N % 2 ^ (7 * (s + 1)) == N % 2 ^ 64) = false := by
          rw [beq_eq_false_iff_ne]; exact fun e => hr (b2.1 e)
        have nx : type_of% @e0 /\ type_of% @b3 /\ True := ⟨@e0, ⟨@b3, trivial⟩⟩
        refine' st53a66f
        all_goals try simp (disch := omega) only [NM, Nat.reduceBEq, reduceAdd, reduceMul, Int.reduceToNat, reduceSub, List.set_cons_zero, List.set_cons_succ, e0, b3, e5]
        all_goals first
          | exact ⟨10 - (s + 1), by omega, s + 1, rfl, by (apply Classical.byContradiction; intro h9; obtain rfl : s = 9 := (by omega); exact hr (range9 hN)), rfl, fun t ht => by (by_cases h : t < s; exact hno t h; obtain rfl : t = s := (by omega); exact hr)⟩
          | (exfalso; omega) | trace_state
    | true =>
      obtain ⟨z, b1, b2⟩ := back_s hN hs
      rw [b1] at hSc
      by_cases hr : rangeF true s N
      · have b3 := b2.2 hr
        have b4 := putF_is hN hr hno
        rw [b4] at hUc hSc e0
        have b5 : (putF true N).length = s + 1 := by rw [<- b4, hl]
        have nx : type_of% @e0 /\ type_of% @b3 /\ type_of% @b4 /\ type_of% @beq_self_eq_true.{0} /\ type_of% @decide_true /\ True := ⟨@e0, ⟨@b3, ⟨@b4, ⟨@beq_self_eq_true.{0}, ⟨@decide_true, trivial⟩⟩⟩⟩⟩
        refine' st53a66f
        all_goals first | exact ⟨trivial, trivial⟩ | exact ⟨rfl, trivial⟩ | exact ⟨rfl, rfl⟩ | exact ⟨trivial, rfl⟩ | (rw [b5]; exact ⟨rfl, trivial⟩) | (rw [b5, e0]; exact ⟨rfl, trivial⟩) | (exfalso; omega) | trace_state
      · have b3 : (IntKind.u64.wrap z == N % 2 ^ 64) = false := by
          rw [beq_eq_false_iff_ne]; exact fun e => hr (b2.1 e)
        have nx : type_of% @e0 /\ type_of% @b3 /\ True := ⟨@e0, ⟨@b3, trivial⟩⟩
        refine' st53a66f
        all_goals try simp (disch := omega) only [NM, Nat.reduceBEq, reduceAdd, reduceMul, Int.reduceToNat, reduceSub, List.set_cons_zero, List.set_cons_succ, e0, b3, e5]
        all_goals first
          | exact ⟨10 - (s + 1), by omega, s + 1, rfl, by (apply Classical.byContradiction; intro h9; obtain rfl : s = 9 := (by omega); exact hr (range9 hN)), rfl, fun t ht => by (by_cases h : t < s; exact hno t h; obtain rfl : t = s := (by omega); exact hr)⟩
          | (exfalso; omega) | trace_state
end Go.Proofs.Yteppkbaeacndiaa
namespace Go.Proofs.Yteppkbaeacndiaa
set_option maxRecDepth 20000
open Go Go.Abs Nat
attribute [local irreducible] AW AWL AC FW CW CWr IntKind.wrap
def R16 (xs : List Int) (n3 : Nat) (c3 : List V) (i : Int) : St :=
  { n := 19, slots := [(0, .view xs.length 1 (nums .u64 xs)), (2, .ref 2 0 0 1), (3, .ref 3 0 n3 1), (4, .int .i64 i)], mem := [(2, ⟨true, []⟩), (3, ⟨true, c3⟩)] }
def R18 (xs : List Int) (n3 : Nat) (c3 : List V) (i : Int) : St :=
  { n := 20, slots := [(0, .view xs.length 1 (nums .i64 xs)), (2, .ref 2 0 0 1), (3, .ref 3 0 n3 1), (4, .int .i64 i)], mem := [(2, ⟨true, []⟩), (3, ⟨true, c3⟩)] }
theorem MRPut.NM : type_of% @NSX /\ type_of% @St.keepS.eq_1 /\ type_of% @TY /\ type_of% @SLS /\ type_of% @nums_length /\ type_of% @R16.eq_1 /\ type_of% @R18.eq_1 :=
  ⟨NSX, St.keepS.eq_1, @TY, @SLS, @nums_length, @R16.eq_1, @R18.eq_1⟩
open MRPut
theorem K1RPut.kp {P : Program} {c : Code} {Q : Exit -> St -> Prop} {st : St} (h : AW P c Q (st.keepS [0, 2, 3, 4])) : AW P c Q st := AW.keepS _ h
theorem K1RPut.cl {p : Prop} (h : p := by
  first
    | refine AWL.frzG rfl rfl rfl ?_
    | refine AWL.cC (f := 62) cb62 rfl rfl rfl rfl rfl rfl (hF) ?_
  all_goals (apply_rules (newGoals := .nonDependentOnly) only [dep])
  all_goals constructor) : p := h
theorem K1RPut.sd {p : Prop} (h : p := by first | exact sd87356d) : p := h
open K1RPut in
set_option maxHeartbeats 1600000 in
theorem rpu_ok (xs : List Int) (hb : ∀ x ∈ xs, 0 <= x /\ x < 2 ^ 64) (hlen : xs.length <= 1000000000000) : AC Try.prog 61 [.view xs.length 1 (nums .u64 xs)] (fun r m => r = .ref 2 0 (putUs xs).length 1 /\ m = [(2, nums .u8 (putUs xs))]) := by
  have hF : True := trivial
  refine AC.enter Try.func61 rfl (Nat.le_of_ble_eq_true rfl) ?_
  simp only [Try.f61]
  have nx : True := trivial
  refine' stc8a5cc
  refine AW.loop [0, 2, 3, 4] [2, 3] (fun n st => ∃ (k n3 : Nat) (o : List Int), st = R16 xs n3 (nums .u8 o) k /\ k <= xs.length /\ n = xs.length - k /\ n3 = o.length /\ o = putUs (xs.take k)) ?_ ?_
  · exact ⟨_, 0, _, [], rfl, Nat.zero_le _, rfl, rfl, rfl⟩
  · rintro n st ⟨k, n3, o, rfl, hk, rfl, rfl, ho⟩
    by_cases hkl : k < xs.length
    · have hlk := putUs_len (xs.take k) (fun x hx => hb x (List.mem_of_mem_take hx))
      rw [List.length_take] at hlk
      rw [<- ho] at hlk
      have hx := hb _ (getD_mem hkl)
      have hF := form_ok false (xs.getD k 0) ⟨fun h => (by cases h), fun _ => hx⟩
      rw [show xs.getD k 0 % 2 ^ 64 = xs.getD k 0 from Int.emod_eq_of_lt hx.1 hx.2, show putF false (xs.getD k 0) = putU (xs.getD k 0).toNat from rfl] at hF
      have hpl := putU_len 9 (xs.getD k 0).toNat (by have := hx.1; have := hx.2; simp only [Nat.reduceAdd, Nat.reduceMul, Nat.reducePow]; omega)
      have hn : putUs (xs.take (k + 1)) = o ++ putU (xs.getD k 0).toNat := by
        rw [take_snoc _ _ hkl, putUs_append, ho]; simp [putUs]
      have e5 : IntKind.i64.wrap ((k : Int) + 1) = ((k + 1 : Nat) : Int) := wrap64_id _ (by omega) (by omega)
      have nx : type_of% @e5 /\ True := ⟨@e5, trivial⟩
      refine' stc8a5cc
      all_goals try simp (disch := omega) only [NM, Nat.reduceBEq, reduceAdd, reduceMul, Int.reduceToNat, reduceSub, List.set_cons_zero, List.set_cons_succ, e5]
      all_goals first
        | exact ⟨xs.length - (k + 1), by omega, k + 1, _, _, rfl, by omega, rfl, by simp, hn.symm⟩
        | (exfalso; omega) | trace_state
    · have hT : putUs (xs.take k) = putUs xs := by rw [List.take_of_length_le (by omega)]
      rw [hT] at ho; subst ho
      have nx : True := trivial
      refine' stc8a5cc
      all_goals first | exact ⟨trivial, trivial⟩ | exact ⟨rfl, trivial⟩ | exact ⟨rfl, rfl⟩ | exact ⟨trivial, rfl⟩ | (exfalso; omega) | trace_state
open K1RPut in
set_option maxHeartbeats 1600000 in
theorem rps_ok (xs : List Int) (hb : ∀ x ∈ xs, -2 ^ 63 <= x /\ x < 2 ^ 63) (hlen : xs.length <= 1000000000000) : AC Try.prog 47 [.view xs.length 1 (nums .i64 xs)] (fun r m => r = .ref 2 0 (putSs xs).length 1 /\ m = [(2, nums .u8 (putSs xs))]) := by
  have hF : True := trivial
  refine AC.enter Try.func47 rfl (Nat.le_of_ble_eq_true rfl) ?_
  simp only [Try.f47]
  have nx : True := trivial
  refine' stc8a5cc
  refine AW.loop [0, 2, 3, 4] [2, 3] (fun n st => ∃ (k n3 : Nat) (o : List Int), st = R18 xs n3 (nums .u8 o) k /\ k <= xs.length /\ n = xs.length - k /\ n3 = o.length /\ o = putSs (xs.take k)) ?_ ?_
  · exact ⟨_, 0, _, [], rfl, Nat.zero_le _, rfl, rfl, rfl⟩
  · rintro n st ⟨k, n3, o, rfl, hk, rfl, rfl, ho⟩
    by_cases hkl : k < xs.length
    · have hlk := putSs_len (xs.take k) (fun x hx => hb x (List.mem_of_mem_take hx))
      rw [List.length_take] at hlk
      rw [<- ho] at hlk
      have hx := hb _ (getD_mem hkl)
      have hF := form_ok true (xs.getD k 0) ⟨fun _ => hx, fun h => (by cases h)⟩
      rw [show putF true (xs.getD k 0) = putS (xs.getD k 0) from rfl] at hF
      have e4 : IntKind.u64.wrap (xs.getD k 0) = xs.getD k 0 % 2 ^ 64 := wrap_unsigned rfl _
      have hpl := putS_len 9 (xs.getD k 0) (by have := hx.1; have := hx.2; simp only [Nat.reduceAdd, Nat.reduceMul, Int.reducePow, Int.reduceMul] at this ⊢; omega)
      have hn : putSs (xs.take (k + 1)) = o ++ putS (xs.getD k 0) := by
        rw [take_snoc _ _ hkl, putSs_append, ho]; simp [putSs]
      have e5 : IntKind.i64.wrap ((k : Int) + 1) = ((k + 1 : Nat) : Int) := wrap64_id _ (by omega) (by omega)
      have nx : type_of% @e4 /\ type_of% @e5 /\ True := ⟨@e4, ⟨@e5, trivial⟩⟩
      refine' stc8a5cc
      all_goals try simp (disch := omega) only [NM, Nat.reduceBEq, reduceAdd, reduceMul, Int.reduceToNat, reduceSub, List.set_cons_zero, List.set_cons_succ, e4, e5]
      all_goals first
        | exact ⟨xs.length - (k + 1), by omega, k + 1, _, _, rfl, by omega, rfl, by simp, hn.symm⟩
        | (exfalso; omega) | trace_state
    · have hT : putSs (xs.take k) = putSs xs := by rw [List.take_of_length_le (by omega)]
      rw [hT] at ho; subst ho
      have nx : True := trivial
      refine' stc8a5cc
      all_goals first | exact ⟨trivial, trivial⟩ | exact ⟨rfl, trivial⟩ | exact ⟨rfl, rfl⟩ | exact ⟨trivial, rfl⟩ | (exfalso; omega) | trace_state
theorem rpu_look (n : Nat) (xs : List Int) (hn : n = xs.length) (hb : ∀ x ∈ xs, 0 <= x /\ x < 2 ^ 64) (hlen : xs.length <= 1000000000000) : AC Try.prog 61 [.view n 1 (nums .u64 xs)] (fun r m => r = .view (putUs xs).length 1 (nums .u8 (putUs xs)) /\ m = []) := by
  subst hn; exact (rpu_ok xs hb hlen).look (by simp [nums])
theorem rps_look (n : Nat) (xs : List Int) (hn : n = xs.length) (hb : ∀ x ∈ xs, -2 ^ 63 <= x /\ x < 2 ^ 63) (hlen : xs.length <= 1000000000000) : AC Try.prog 47 [.view n 1 (nums .i64 xs)] (fun r m => r = .view (putSs xs).length 1 (nums .u8 (putSs xs)) /\ m = []) := by
  subst hn; exact (rps_ok xs hb hlen).look (by simp [nums])
end Go.Proofs.Yteppkbaeacndiaa
namespace Go.Proofs.Yteppkbaeacndiaa
set_option maxRecDepth 20000
open Go Go.Abs Nat
attribute [local irreducible] AW AWL AC FW CW CWr IntKind.wrap
def S23 (v : List Int) (w i x k : Int) : St := { n := 43, slots := [(1, .int .i64 w), (2, .int .i64 i), (3, .int .u64 x), (4, .ptr 4 0), (8, .ptr 8 0), (9, .int .i64 k)], mem := [(4, ⟨true, nums .u8 v⟩), (8, ⟨true, nums .u8 zero16⟩)] }
theorem MRSet.NM : type_of% @NSX /\ type_of% @St.keepS.eq_1 /\ type_of% @TY /\ type_of% @SLS /\ type_of% @take16 /\ type_of% @drop16 /\ type_of% @dz /\ type_of% @nums_length /\ type_of% @S23.eq_1 :=
  ⟨NSX, St.keepS.eq_1, @TY, @SLS, @take16, @drop16, @dz, @nums_length, @S23.eq_1⟩
open MRSet
theorem K1RSet.kp {P : Program} {c : Code} {Q : Exit -> St -> Prop} {st : St} (h : AW P c Q (st.keepS [0, 1, 2, 3, 4, 8, 9])) : AW P c Q st := AW.keepS _ h
theorem K1RSet.cl {p : Prop} (h : p := by
  first
    | refine AWL.frzG rfl rfl rfl ?_
    | refine AWL.cC (f := 68) cb68 rfl rfl rfl rfl rfl rfl (rlanes_ok _) ?_
  all_goals (apply_rules (newGoals := .nonDependentOnly) only [dep])
  all_goals constructor) : p := h
theorem K1RSet.sd {p : Prop} (h : p := by first | exact sdd796e3) : p := h
open K1RSet in
set_option maxHeartbeats 1600000 in
theorem rset_ok (v : List Int) (hl : v.length = 16) (hb : bytes v) (w i x : Int) (hx : 0 <= x) (hx2 : x < 2 ^ 64) : AC Try.prog 63 [.fagg (nums .u8 v), .int .i64 w, .int .i64 i, .int .u64 x] (fun r m => r = .fagg (nums .u8 (set v w i x)) /\ m = []) := by
  by_cases hi : 0 <= i /\ i < lanes w
  · obtain ⟨i0, rfl⟩ : ∃ i0 : Nat, i = i0 := ⟨i.toNat, by omega⟩
    obtain ⟨h0, h16⟩ := lane_in (w := w) (i := i0) (by omega)
    have e1 := wbe h0
    have h8 := (lanes_wb h0).2.2.2
    have e2 : IntKind.i64.wrap ((i0 : Int) * (wb w : Nat)) = ((i0 * wb w : Nat) : Int) := by rw [<- Int.natCast_mul]; exact wrap64_id _ (by omega) (by omega)
    have hs : set v w i0 x = splice v (i0 * wb w) (toB (wb w) x) := by unfold set; rw [if_pos (by omega), Int.toNat_natCast]
    have hsl : (set v w i0 x).length = 16 := (set_ok w i0 x hl hb).1
    refine AC.enter Try.func63 rfl (Nat.le_of_ble_eq_true rfl) ?_
    simp only [Try.f63]
    have nx : type_of% @e1 /\ type_of% @hl /\ True := ⟨@e1, ⟨@hl, trivial⟩⟩
    refine' std414a9
    all_goals try (exfalso; omega)
    refine AW.loop [1, 2, 3, 4, 8, 9] [4, 8] (fun n st => ∃ k : Nat, st = S23 (splice v (i0 * wb w) (toB k x)) w i0 (x / 2 ^ (8 * k)) k /\ k <= wb w /\ n = wb w - k) ?_ ?_
    · exact ⟨_, 0, by rw [toB, splice_nil]; simp only [Nat.mul_zero, Int.pow_zero, Int.ediv_one]; rfl, Nat.zero_le _, rfl⟩
    · rintro n st ⟨k, rfl, hk, rfl⟩
      have hsp : (splice v (i0 * wb w) (toB k x)).length = 16 := by rw [splice_len (by rw [toB_len]; omega), hl]
      have e3 : IntKind.i64.wrap (((i0 * wb w : Nat) : Int) + (k : Int)) = ((i0 * wb w + k : Nat) : Int) := by rw [<- Int.natCast_add]; exact wrap64_id _ (by omega) (by omega)
      have e5 : IntKind.i64.wrap ((k : Int) + 1) = k + 1 := wrap64_id _ (by omega) (by omega)
      by_cases hkw : k < wb w
      · have hp : (0 : Int) < 2 ^ (8 * k) := Int.pow_pos (by decide)
        have hq : 0 <= x / 2 ^ (8 * k) := Int.ediv_nonneg hx (by omega)
        have hq2 : x / 2 ^ (8 * k) <= x := Int.ediv_le_self _ hx
        have e7 := splice_set (l := v) (o := i0 * wb w) (m := toB k x) (x / 2 ^ (8 * k) % 256) (by rw [toB_len]; omega)
        rw [toB_len, <- toB_succ] at e7
        have e8 : (x / 2 ^ (8 * k)).tmod 256 = x / 2 ^ (8 * k) % 256 := Int.tmod_eq_emod_of_nonneg hq
        have e9 : IntKind.u64.wrap ((x / 2 ^ (8 * k)).tdiv 256) = x / 2 ^ (8 * (k + 1)) := by
          rw [Int.tdiv_eq_ediv_of_nonneg hq, pow8, Int.mul_comm, <- Int.ediv_ediv_of_nonneg (by omega)]
          exact wrap_in rfl (Int.ediv_nonneg hq (by decide)) (by show _ < (2 : Int) ^ 64; have := Int.ediv_le_self 256 hq; omega)
        have e10 : IntKind.u8.wrap (x / 2 ^ (8 * k) % 256) = x / 2 ^ (8 * k) % 256 := by rw [u8mod]; omega
        have nx : type_of% @e1 /\ type_of% @e2 /\ type_of% @e3 /\ type_of% @e5 /\ type_of% @e7 /\ type_of% @e8 /\ type_of% @e9 /\ type_of% @e10 /\ type_of% @hsp /\ True := ⟨@e1, ⟨@e2, ⟨@e3, ⟨@e5, ⟨@e7, ⟨@e8, ⟨@e9, ⟨@e10, ⟨@hsp, trivial⟩⟩⟩⟩⟩⟩⟩⟩⟩
        refine' std414a9
        all_goals try simp (disch := omega) only [NM, Nat.reduceBEq, reduceAdd, reduceMul, Int.reduceToNat, reduceSub, List.set_cons_zero, List.set_cons_succ, e1, e2, e3, e5, e7, e8, e9, e10, hsp]
        all_goals first
          | exact ⟨wb w - (k + 1), by omega, k + 1, rfl, by omega, rfl⟩
          | (exfalso; omega)
          | trace_state
      · obtain rfl : k = wb w := by omega
        rw [<- hs]
        rw [<- hs] at hsp
        have nx : type_of% @e1 /\ type_of% @hsp /\ True := ⟨@e1, ⟨@hsp, trivial⟩⟩
        refine' std414a9
        all_goals try simp (disch := omega) only [NM, Nat.reduceBEq, reduceAdd, reduceMul, Int.reduceToNat, reduceSub, List.set_cons_zero, List.set_cons_succ, e1, hsp]
        all_goals first | exact ⟨trivial, trivial⟩ | exact ⟨rfl, trivial⟩ | exact ⟨rfl, rfl⟩ | exact ⟨trivial, rfl⟩ | (exfalso; omega) | trace_state
  · have hs : set v w i x = v := by unfold set; rw [if_neg hi]
    rw [hs]
    refine AC.enter Try.func63 rfl (Nat.le_of_ble_eq_true rfl) ?_
    simp only [Try.f63]
    have nx : type_of% @hl /\ True := ⟨@hl, trivial⟩
    refine' std414a9
    all_goals first | exact ⟨trivial, trivial⟩ | exact ⟨rfl, trivial⟩ | exact ⟨rfl, rfl⟩ | exact ⟨trivial, rfl⟩ | (exfalso; omega) | trace_state
end Go.Proofs.Yteppkbaeacndiaa
namespace Go.Proofs.Yteppkbaeacndiaa
set_option maxRecDepth 20000
open Go Go.Abs Nat
attribute [local irreducible] AW AWL AC FW CW CWr IntKind.wrap
theorem set_join (l h : Int) : set (set zero16 64 0 l) 64 1 h = join l h := by
  unfold set
  rw [if_pos (by decide), if_pos (by decide)]
  have e1 : wb 64 = 8 := rfl
  rw [e1]
  simp [splice, toB, zero16, join]
theorem MRJoin.NM : type_of% @NSX /\ type_of% @St.keepS.eq_1 /\ type_of% @TY /\ type_of% @SLS /\ type_of% @take16 /\ type_of% @drop16 /\ type_of% @dz /\ type_of% @nums_length :=
  ⟨NSX, St.keepS.eq_1, @TY, @SLS, @take16, @drop16, @dz, @nums_length⟩
open MRJoin
theorem K1RJoin.kp {P : Program} {c : Code} {Q : Exit -> St -> Prop} {st : St} (h : AW P c Q (st.keepS [0, 1, 2])) : AW P c Q st := AW.keepS _ h
theorem K1RJoin.cl {p : Prop} (h : p := by
  first
    | refine AWL.frzG rfl rfl rfl ?_
    | refine AWL.cC (f := 63) cb63 rfl rfl rfl rfl rfl rfl (rset_ok _ ?_ ?_ _ _ _ ?_ ?_) ?_
    | refine AWL.cC (f := 63) cb63 rfl rfl rfl rfl rfl rfl (AC.of_fagg (rset_ok zero16 zero_ok.1 zero_ok.2 _ _ _ ?_ ?_)) ?_
  all_goals (apply_rules (newGoals := .nonDependentOnly) only [dep])
  all_goals constructor) : p := h
theorem K1RJoin.sd {p : Prop} (h : p := by first | exact sd45ccef) : p := h
open K1RJoin in
set_option maxHeartbeats 800000 in
theorem rjoin_ok (l h : Int) (h1 : 0 <= l) (h2 : l < 2 ^ 64) (h3 : 0 <= h) (h4 : h < 2 ^ 64) : AC Try.prog 49 [.agg [.int .u64 l, .int .u64 h]] (fun r m => r = .fagg (nums .u8 (join l h)) /\ m = []) := by
  have hs := set_ok 64 0 l zero_ok.1 zero_ok.2
  have hs1 := hs.1
  have hs2 := hs.2
  have hj := (set_ok 64 1 h hs1 hs2).1
  refine AC.enter Try.func49 rfl (Nat.le_of_ble_eq_true rfl) ?_
  simp only [Try.f49]
  have nx : type_of% @hs1 /\ type_of% @hj /\ True := ⟨@hs1, ⟨@hj, trivial⟩⟩
  refine' sta7f635
  all_goals first | exact ⟨trivial, trivial⟩ | exact ⟨rfl, trivial⟩ | exact ⟨rfl, rfl⟩ | exact ⟨trivial, rfl⟩ | exact ⟨by rw [set_join], trivial⟩ | (exfalso; omega) | trace_state
end Go.Proofs.Yteppkbaeacndiaa
namespace Go.Proofs.Yteppkbaeacndiaa
set_option maxRecDepth 20000
open Go Go.Abs Nat
attribute [local irreducible] AW AWL AC FW CW CWr IntKind.wrap
theorem MRSign.NM : type_of% @NSX /\ type_of% @St.keepS.eq_1 /\ type_of% @TY /\ type_of% @SLS /\ type_of% @take16 /\ type_of% @drop16 /\ type_of% @dz /\ type_of% @nums_length :=
  ⟨NSX, St.keepS.eq_1, @TY, @SLS, @take16, @drop16, @dz, @nums_length⟩
open MRSign
theorem K1RSign.kp {P : Program} {c : Code} {Q : Exit -> St -> Prop} {st : St} (h : AW P c Q (st.keepS [0, 1, 4])) : AW P c Q st := AW.keepS _ h
theorem K1RSign.sd {p : Prop} (h : p := by first | exact sdd796e3) : p := h
open K1RSign in
set_option maxHeartbeats 1600000 in
theorem sign_ok (x : Int) (h0 : 0 <= x) (h1 : x < 2 ^ 64) (w : Int) (hw : lanes w ≠ 0) : AC Try.prog 48 [.int .u64 x, .int .i64 w] (fun r m => r = .int .i64 (sgn w x) /\ m = []) := by
  have h1' : x < 18446744073709551616 := h1
  rcases lanes_pos hw with rfl | rfl | rfl | rfl
  · have e0 : IntKind.u64.wrap 8 = 8 := by decide +kernel
    have e00 : IntKind.u64.wrap (IntKind.i64.wrap (8 - 1)) = 7 := by decide +kernel
    have e1 : IntKind.u64.wrap (1 * 2 ^ min 8 IntKind.u64.bits) = 256 := by decide +kernel
    have e2 : IntKind.u64.wrap (1 * 2 ^ min 7 IntKind.u64.bits) = 128 := by decide +kernel
    have e3 : IntKind.i64.wrap (1 * 2 ^ min 8 IntKind.i64.bits) = 256 := by decide +kernel
    have e4 : x.tmod 256 = x % 256 := Int.tmod_eq_emod_of_nonneg h0
    have e5 : IntKind.i64.wrap (x % 256) = x % 256 := wrap64_id _ (by omega) (by omega)
    have e6 : IntKind.i64.wrap (x % 256 - 256) = x % 256 - 256 := wrap64_id _ (by omega) (by omega)
    have es : sgn 8 x = if x % 256 < 128 then x % 256 else x % 256 - 256 := rfl
    refine AC.enter Try.func48 rfl (Nat.le_of_ble_eq_true rfl) ?_
    simp only [Try.f48]
    have nx : type_of% @e0 /\ type_of% @e00 /\ type_of% @e1 /\ type_of% @e2 /\ type_of% @e3 /\ type_of% @e4 /\ type_of% @e5 /\ type_of% @e6 /\ True := ⟨@e0, ⟨@e00, ⟨@e1, ⟨@e2, ⟨@e3, ⟨@e4, ⟨@e5, ⟨@e6, trivial⟩⟩⟩⟩⟩⟩⟩⟩
    refine' st6320d6
    all_goals first | exact ⟨trivial, trivial⟩ | exact ⟨rfl, trivial⟩ | exact ⟨rfl, rfl⟩ | exact ⟨trivial, rfl⟩ | exact ⟨by rw [es, if_neg (by omega)], trivial⟩ | exact ⟨by rw [es, if_pos (by omega)], trivial⟩ | (exfalso; omega) | trace_state
  · have e0 : IntKind.u64.wrap 16 = 16 := by decide +kernel
    have e00 : IntKind.u64.wrap (IntKind.i64.wrap (16 - 1)) = 15 := by decide +kernel
    have e1 : IntKind.u64.wrap (1 * 2 ^ min 16 IntKind.u64.bits) = 65536 := by decide +kernel
    have e2 : IntKind.u64.wrap (1 * 2 ^ min 15 IntKind.u64.bits) = 32768 := by decide +kernel
    have e3 : IntKind.i64.wrap (1 * 2 ^ min 16 IntKind.i64.bits) = 65536 := by decide +kernel
    have e4 : x.tmod 65536 = x % 65536 := Int.tmod_eq_emod_of_nonneg h0
    have e5 : IntKind.i64.wrap (x % 65536) = x % 65536 := wrap64_id _ (by omega) (by omega)
    have e6 : IntKind.i64.wrap (x % 65536 - 65536) = x % 65536 - 65536 := wrap64_id _ (by omega) (by omega)
    have es : sgn 16 x = if x % 65536 < 32768 then x % 65536 else x % 65536 - 65536 := rfl
    refine AC.enter Try.func48 rfl (Nat.le_of_ble_eq_true rfl) ?_
    simp only [Try.f48]
    have nx : type_of% @e0 /\ type_of% @e00 /\ type_of% @e1 /\ type_of% @e2 /\ type_of% @e3 /\ type_of% @e4 /\ type_of% @e5 /\ type_of% @e6 /\ True := ⟨@e0, ⟨@e00, ⟨@e1, ⟨@e2, ⟨@e3, ⟨@e4, ⟨@e5, ⟨@e6, trivial⟩⟩⟩⟩⟩⟩⟩⟩
    refine' st6320d6
    all_goals first | exact ⟨trivial, trivial⟩ | exact ⟨rfl, trivial⟩ | exact ⟨rfl, rfl⟩ | exact ⟨trivial, rfl⟩ | exact ⟨by rw [es, if_neg (by omega)], trivial⟩ | exact ⟨by rw [es, if_pos (by omega)], trivial⟩ | (exfalso; omega) | trace_state
  · have e0 : IntKind.u64.wrap 32 = 32 := by decide +kernel
    have e00 : IntKind.u64.wrap (IntKind.i64.wrap (32 - 1)) = 31 := by decide +kernel
    have e1 : IntKind.u64.wrap (1 * 2 ^ min 32 IntKind.u64.bits) = 4294967296 := by decide +kernel
    have e2 : IntKind.u64.wrap (1 * 2 ^ min 31 IntKind.u64.bits) = 2147483648 := by decide +kernel
    have e3 : IntKind.i64.wrap (1 * 2 ^ min 32 IntKind.i64.bits) = 4294967296 := by decide +kernel
    have e4 : x.tmod 4294967296 = x % 4294967296 := Int.tmod_eq_emod_of_nonneg h0
    have e5 : IntKind.i64.wrap (x % 4294967296) = x % 4294967296 := wrap64_id _ (by omega) (by omega)
    have e6 : IntKind.i64.wrap (x % 4294967296 - 4294967296) = x % 4294967296 - 4294967296 := wrap64_id _ (by omega) (by omega)
    have es : sgn 32 x = if x % 4294967296 < 2147483648 then x % 4294967296 else x % 4294967296 - 4294967296 := rfl
    refine AC.enter Try.func48 rfl (Nat.le_of_ble_eq_true rfl) ?_
    simp only [Try.f48]
    have nx : type_of% @e0 /\ type_of% @e00 /\ type_of% @e1 /\ type_of% @e2 /\ type_of% @e3 /\ type_of% @e4 /\ type_of% @e5 /\ type_of% @e6 /\ True := ⟨@e0, ⟨@e00, ⟨@e1, ⟨@e2, ⟨@e3, ⟨@e4, ⟨@e5, ⟨@e6, trivial⟩⟩⟩⟩⟩⟩⟩⟩
    refine' st6320d6
    all_goals first | exact ⟨trivial, trivial⟩ | exact ⟨rfl, trivial⟩ | exact ⟨rfl, rfl⟩ | exact ⟨trivial, rfl⟩ | exact ⟨by rw [es, if_neg (by omega)], trivial⟩ | exact ⟨by rw [es, if_pos (by omega)], trivial⟩ | (exfalso; omega) | trace_state
  · have es : sgn 64 x = if x % 18446744073709551616 < 9223372036854775808 then x % 18446744073709551616 else x % 18446744073709551616 - 18446744073709551616 := rfl
    have e1 : IntKind.i64.wrap x = sgn 64 x := by rw [es, IntKind.wrap_i64]; split <;> omega
    refine AC.enter Try.func48 rfl (Nat.le_of_ble_eq_true rfl) ?_
    simp only [Try.f48]
    have nx : type_of% @e1 /\ True := ⟨@e1, trivial⟩
    refine' st6320d6
    all_goals first | exact ⟨trivial, trivial⟩ | exact ⟨rfl, trivial⟩ | exact ⟨rfl, rfl⟩ | exact ⟨trivial, rfl⟩ | (exfalso; omega) | trace_state
end Go.Proofs.Yteppkbaeacndiaa
