/- bytes by sevens and bit by bit: the same. -/
import Derived.Test.YticidhkilfkgbaaV4
import Derived.Test.YticidhkilfkgbaaU
import Derived.Test.YticidhkilfkgbaaS
import Derived.Test.YticidhkilfkgbaaRU
import Derived.Test.YticidhkilfkgbaaRS
namespace Go.Proofs.Yticidhkilfkgbaa
set_option linter.unusedSimpArgs false
set_option linter.unusedVariables false
open Go Go.Abs

theorem val7n : ∀ n : Fin 256, val (bits7 (n.val : Int)) = (n.val : Int) % 128 := by decide +kernel
theorem val7 {x : Int} (h : byte x) : val (bits7 x) = x % 128 := by
  obtain ⟨h0, h1⟩ := h
  have := val7n ⟨x.toNat, by omega⟩
  simp only [Int.toNat_of_nonneg h0] at this; exact this
theorem hi7n : ∀ n : Fin 256, ∀ d : Fin 8, ((n.val : Int) % 128 / 2 ^ d.val ≠ 0 ↔ ∃ i : Fin 7, d.val ≤ i.val ∧ bitn (n.val : Int) (i.val : Int) = 1) := by decide +kernel
theorem hi7 {x : Int} (h : byte x) {d : Nat} (hd : d < 8) : (x % 128 / 2 ^ d ≠ 0) ↔ ∃ i, i < 7 ∧ d ≤ i ∧ bitn x (i : Int) = 1 := by
  obtain ⟨h0, h1⟩ := h
  have := hi7n ⟨x.toNat, by omega⟩ ⟨d, hd⟩
  simp only [Int.toNat_of_nonneg h0] at this
  rw [this]
  exact ⟨fun ⟨i, a, b⟩ => ⟨i.val, i.isLt, a, b⟩, fun ⟨i, h, a, b⟩ => ⟨⟨i, h⟩, a, b⟩⟩
theorem sg7n : ∀ n : Fin 256, ∀ d : Fin 7, ((sx (n.val : Int) / 2 ^ d.val ≠ 0 ∧ sx (n.val : Int) / 2 ^ d.val ≠ -1) ↔ ∃ i : Fin 7, d.val < i.val ∧ bitn (n.val : Int) (i.val : Int) ≠ bitn (n.val : Int) (d.val : Int)) := by decide +kernel
theorem sg7 {x : Int} (h : byte x) {d : Nat} (hd : d < 7) : (sx x / 2 ^ d ≠ 0 ∧ sx x / 2 ^ d ≠ -1) ↔ ∃ i, i < 7 ∧ d < i ∧ bitn x (i : Int) ≠ bitn x (d : Int) := by
  obtain ⟨h0, h1⟩ := h
  have := sg7n ⟨x.toNat, by omega⟩ ⟨d, hd⟩
  simp only [Int.toNat_of_nonneg h0] at this
  rw [this]
  exact ⟨fun ⟨i, a, b⟩ => ⟨i.val, i.isLt, a, b⟩, fun ⟨i, h, a, b⟩ => ⟨⟨i, h⟩, a, b⟩⟩
theorem val_l7 {l : List Int} {x : Int} {k : Nat} (h : byte x) (hl : l.length = 7 * k) : val (l ++ bits7 x) = val l + x % 128 * 2 ^ (7 * k) := by
  rw [val_append, val7 h, hl, Int.mul_comm (2 ^ _)]
theorem badU {bits : Int} {k : Nat} {x : Int} {l : List Int} (h : byte x) (hk : 7 * (k : Int) < bits) :
    ((∃ i, i < 7 ∧ badAt false bits k x l i) ∨ (7 * ((k : Int) + 1) ≥ bits ∧ x ≥ 128)) ↔ ((bits - ((7 * k : Nat) : Int) < 7 ∧ (x % 128) / 2 ^ (bits - ((7 * k : Nat) : Int)).toNat ≠ 0) ∨ (bits - ((7 * k : Nat) : Int) ≤ 7 ∧ x ≥ 128)) := by
  constructor
  · rintro (⟨i, hi, hb, _, h2⟩ | ⟨h1, h2⟩)
    · exact .inl ⟨by omega, (hi7 h (by omega)).2 ⟨i, hi, by omega, h2 rfl⟩⟩
    · exact .inr ⟨by omega, h2⟩
  · rintro (⟨h1, h2⟩ | ⟨h1, h2⟩)
    · obtain ⟨i, hi, hd, hb⟩ := (hi7 h (by omega)).1 h2
      exact .inl ⟨i, hi, by omega, fun h => Bool.noConfusion h, fun _ => hb⟩
    · exact .inr ⟨by omega, h2⟩
theorem badS {bits : Int} {k : Nat} {x : Int} {l : List Int} (h : byte x) (hl : l.length = 7 * k) (hk : 7 * (k : Int) < bits) :
    ((∃ i, i < 7 ∧ badAt true bits k x l i) ∨ (7 * ((k : Int) + 1) ≥ bits ∧ x ≥ 128)) ↔ (bits - ((7 * k : Nat) : Int) ≤ 7 ∧ ((sx x / 2 ^ (bits - ((7 * k : Nat) : Int) - 1).toNat ≠ 0 ∧ sx x / 2 ^ (bits - ((7 * k : Nat) : Int) - 1).toNat ≠ -1) ∨ x ≥ 128)) := by
  have hg : bits - ((7 * k : Nat) : Int) ≤ 7 → (l ++ bits7 x).getD (bits - 1).toNat 0 = bitn x (((bits - ((7 * k : Nat) : Int) - 1).toNat : Nat) : Int) := fun h7 => by
    rw [List.getD_eq_getElem?_getD, List.getElem?_append_right (by omega), ← List.getD_eq_getElem?_getD, bits7_at _ _ (by omega)]
    congr 1; omega
  constructor
  · rintro (⟨i, hi, hb, h2, _⟩ | ⟨h1, h2⟩)
    · refine ⟨by omega, .inl ((sg7 h (by omega)).2 ⟨i, hi, by omega, ?_⟩)⟩
      rw [← hg (by omega)]; exact h2 rfl
    · exact ⟨by omega, .inr h2⟩
  · rintro ⟨h1, h2 | h2⟩
    · obtain ⟨i, hi, hd, hb⟩ := (sg7 h (by omega)).1 h2
      exact .inl ⟨i, hi, by omega, fun _ => by rw [hg h1]; exact hb, fun h => Bool.noConfusion h⟩
    · exact .inr ⟨by omega, h2⟩
theorem take70 {l : List Int} {x : Int} (hl : l.length = 63) (m : List Int) : ((l ++ bits7 x) ++ m).take 64 = l ++ [bitn x 0] := by
  rw [List.append_assoc, List.take_append, hl, List.take_of_length_le (by omega)]; rfl
theorem u_ind (bits : Int) (h64 : bits ≤ 64) : ∀ (xs : List Int) (k : Nat) (l : List Int) (at_ : Int), bytes xs → bits01 l → l.length = 7 * k → 7 * (k : Int) < bits →
    uRd bits xs (7 * k) (val l) at_ = (val ((rRd false bits xs k l at_).1.take 64), (rRd false bits xs k l at_).2.1, (rRd false bits xs k l at_).2.2)
  | [], _, _, _, _, _, _, _ => rfl
  | x :: t, k, l, at_, hb, h01, hl, hk => by
    have hx := hb x (List.mem_cons_self ..)
    have hv := val_l7 hx hl
    rw [uRd, rRd]
    have hbad := badU (l := l) hx hk
    by_cases c : (bits - ((7 * k : Nat) : Int) < 7 ∧ (x % 128) / 2 ^ (bits - ((7 * k : Nat) : Int)).toNat ≠ 0) ∨ (bits - ((7 * k : Nat) : Int) ≤ 7 ∧ x ≥ 128)
    · rw [if_pos c, if_pos (hbad.2 c)]; rfl
    · rw [if_neg c, if_neg (fun h => c (hbad.1 h))]
      by_cases h128 : x < 128
      · rw [if_pos h128, if_pos h128, ← hv]
        have : val ((l ++ bits7 x).take 64) = val (l ++ bits7 x) := by
          by_cases h8 : k ≤ 8
          · rw [List.take_of_length_le (by rw [List.length_append, bits7_len]; omega)]
          · obtain rfl : k = 9 := by omega
            obtain rfl : bits = 64 := by omega
            have ht := take70 (x := x) (by omega) (l := l) []
            rw [List.append_nil] at ht
            have hz : x % 128 / 2 ^ 1 = 0 := Classical.byContradiction fun h => c (.inl ⟨by decide, h⟩)
            have hx0 := hx.1
            have hb0 : bitn x 0 = x % 128 := by
              show x / 2 ^ 0 % 2 = _
              simp only [Int.pow_zero, Int.ediv_one, Int.reducePow] at hz ⊢; omega
            rw [ht, hv, val_append, hl, hb0]
            simp only [val, Int.mul_zero, Int.add_zero]
            rw [Int.mul_comm]
        simp only [this]
      · rw [if_neg h128, if_neg h128, ← hv]
        exact u_ind bits h64 t (k + 1) (l ++ bits7 x) (at_ + 1) (fun y hy => hb y (List.mem_cons_of_mem _ hy)) (bits01_append h01 (bits7_01 x)) (by rw [List.length_append, bits7_len]; omega) (by
          apply Classical.byContradiction; intro h; exact c (.inr ⟨by omega, by omega⟩))
theorem u_eq (xs : List Int) (hb : bytes xs) (at_ bits : Int) : uSpec xs at_ bits = (val ((rSpec false xs at_ bits).1.take 64), (rSpec false xs at_ bits).2.1, (rSpec false xs at_ bits).2.2) := by
  rw [uSpec, rSpec]
  split
  · rfl
  · exact u_ind bits (by omega) _ 0 [] at_ (fun x hx => hb x (List.mem_of_mem_drop hx)) (fun b hb => by cases hb) rfl (by omega)
theorem val_rep (n : Nat) (t : Int) : val (List.replicate n t) = t * (2 ^ n - 1) := by
  induction n with
  | zero => simp [val]
  | succ n ih =>
    have e : t * (2 ^ n * 2 - 1) = t * 2 ^ n * 2 - t := by rw [Int.mul_sub, Int.mul_one, ← Int.mul_assoc]
    rw [List.replicate_succ, val, ih, Int.pow_succ, e, Int.mul_sub, Int.mul_one]
    generalize t * 2 ^ n = y
    omega
theorem sval {l : List Int} {x bits : Int} {k : Nat} (h64 : bits ≤ 64) (hk : 7 * (k : Int) < bits) (hx : byte x) (h01 : bits01 l) (hl : l.length = 7 * k)
    (c : ¬(bits - ((7 * k : Nat) : Int) ≤ 7 ∧ ((sx x / 2 ^ (bits - ((7 * k : Nat) : Int) - 1).toNat ≠ 0 ∧ sx x / 2 ^ (bits - ((7 * k : Nat) : Int) - 1).toNat ≠ -1) ∨ x ≥ 128))) :
    sext (7 * k + 7) (val l + x % 128 * 2 ^ (7 * k)) = IntKind.i64.wrap (val (ext64 (l ++ bits7 x) 64)) := by
  have hvl := val_bound h01
  rw [hl] at hvl
  have hx0 := hx.1
  by_cases h8 : k ≤ 8
  · have hlen : (l ++ bits7 x).length = 7 * k + 7 := by rw [List.length_append, bits7_len, hl]
    have htop : (l ++ bits7 x).getD ((l ++ bits7 x).length - 1) 0 = bitn x 6 := by
      rw [hlen, List.getD_eq_getElem?_getD, List.getElem?_append_right (by omega), show 7 * k + 7 - 1 - l.length = 6 from by omega]; rfl
    have he : ext64 (l ++ bits7 x) 64 = (l ++ bits7 x) ++ List.replicate (64 - (7 * k + 7)) (bitn x 6) := by
      rw [ext64, htop, List.take_append, hlen, List.take_of_length_le (by omega), List.take_replicate]
      congr 2; omega
    rw [he, val_append, val_l7 hx hl, hlen, val_rep]
    have hb6 : bitn x 6 = x % 128 / 64 := by
      show x / 2 ^ 6 % 2 = _
      simp only [Int.reducePow]; omega
    rw [hb6]
    generalize val l = v at *
    have hy0 : 0 ≤ x % 128 := by omega
    have hy1 : x % 128 < 128 := by omega
    generalize x % 128 = y at *
    clear c hx htop he hlen hb6 hl h01
    have : k = 0 ∨ k = 1 ∨ k = 2 ∨ k = 3 ∨ k = 4 ∨ k = 5 ∨ k = 6 ∨ k = 7 ∨ k = 8 := by omega
    rcases this with rfl | rfl | rfl | rfl | rfl | rfl | rfl | rfl | rfl <;>
      (simp only [Nat.reduceMul, Nat.reduceAdd, Nat.reduceSub, Int.reducePow, Int.reduceSub] at hvl ⊢
       rw [wrap64_of (by omega) (by omega)]
       simp only [sext, Nat.reduceSub, Int.reducePow]
       split <;> split <;> omega)
  · obtain ⟨rfl, hlow⟩ := sx_low (x := x) h64 hk h8 (fun h7 => by
      apply Classical.byContradiction; intro hn
      exact c ⟨by omega, .inl ⟨fun h => hn (.inl h), fun h => hn (.inr h)⟩⟩)
    rw [ext64, take70 (by omega), val_append, hl]
    simp only [val, Int.mul_zero, Int.add_zero, Nat.reduceMul, Nat.reduceAdd, Int.reducePow] at hvl ⊢
    have hb0 : bitn x 0 = x % 2 := by
      show x / 2 ^ 0 % 2 = _
      simp only [Int.pow_zero, Int.ediv_one]
    rw [hb0, wrap64_of (by omega) (by omega)]
    simp only [sext, Nat.reduceSub, Int.reducePow]
    rcases hlow with hlow | hlow <;> rw [hlow] <;> split <;> split <;> omega
theorem s_ind (bits : Int) (h64 : bits ≤ 64) : ∀ (xs : List Int) (k : Nat) (l : List Int) (at_ : Int), bytes xs → bits01 l → l.length = 7 * k → 7 * (k : Int) < bits →
    sRd bits xs (7 * k) (val l) at_ = if (rRd true bits xs k l at_).2.2 = 0 then (IntKind.i64.wrap (val (ext64 (rRd true bits xs k l at_).1 64)), (rRd true bits xs k l at_).2.1, 0) else (0, 0, (rRd true bits xs k l at_).2.2)
  | [], _, _, _, _, _, _, _ => rfl
  | x :: t, k, l, at_, hb, h01, hl, hk => by
    have hx := hb x (List.mem_cons_self ..)
    have hv := val_l7 hx hl
    rw [sRd, rRd]
    have hbad := badS hx hl hk
    by_cases c : bits - ((7 * k : Nat) : Int) ≤ 7 ∧ ((sx x / 2 ^ (bits - ((7 * k : Nat) : Int) - 1).toNat ≠ 0 ∧ sx x / 2 ^ (bits - ((7 * k : Nat) : Int) - 1).toNat ≠ -1) ∨ x ≥ 128)
    · rw [if_pos c, if_pos (hbad.2 c)]; rfl
    · rw [if_neg c, if_neg (fun h => c (hbad.1 h))]
      by_cases h128 : x < 128
      · rw [if_pos h128, if_pos h128, sval h64 hk hx h01 hl c]; rfl
      · rw [if_neg h128, if_neg h128, ← hv]
        exact s_ind bits h64 t (k + 1) (l ++ bits7 x) (at_ + 1) (fun y hy => hb y (List.mem_cons_of_mem _ hy)) (bits01_append h01 (bits7_01 x)) (by rw [List.length_append, bits7_len]; omega) (by
          apply Classical.byContradiction; intro h; exact c ⟨by omega, .inr (by omega)⟩)
theorem s_eq (xs : List Int) (hb : bytes xs) (at_ bits : Int) : sSpec xs at_ bits = if (rSpec true xs at_ bits).2.2 = 0 then (IntKind.i64.wrap (val (ext64 (rSpec true xs at_ bits).1 64)), (rSpec true xs at_ bits).2.1, 0) else (0, 0, (rSpec true xs at_ bits).2.2) := by
  rw [sSpec, rSpec]
  split
  · rfl
  · exact s_ind bits (by omega) _ 0 [] at_ (fun x hx => hb x (List.mem_of_mem_drop hx)) (fun b hb => by cases hb) rfl (by omega)
/-- the document's U, by sevens -/
theorem ru_at (xs : List Int) (hb : bytes xs) (hlen : xs.length ≤ 1000000000000000) (at_ bits : Int) :
    AC Try.prog 12 [.view xs.length 1 (nums .u8 xs), .int .i64 at_, .int .i64 bits] (fun r m => r = .tup [.int .u64 (uSpec xs at_ bits).1, .int .i64 (uSpec xs at_ bits).2.1, .int .i64 (uSpec xs at_ bits).2.2] ∧ m = []) := by
  rw [u_eq xs hb]; exact ru_ok xs hb hlen at_ bits
theorem rs_at (xs : List Int) (hb : bytes xs) (hlen : xs.length ≤ 1000000000000000) (at_ bits : Int) :
    AC Try.prog 14 [.view xs.length 1 (nums .u8 xs), .int .i64 at_, .int .i64 bits] (fun r m => r = .tup [.int .i64 (sSpec xs at_ bits).1, .int .i64 (sSpec xs at_ bits).2.1, .int .i64 (sSpec xs at_ bits).2.2] ∧ m = []) := by
  have := rs_ok xs hb hlen at_ bits
  rw [s_eq xs hb]
  by_cases h : (rSpec true xs at_ bits).2.2 = 0
  · rw [if_pos h] at this ⊢; exact this
  · rw [if_neg h] at this ⊢; exact this
end Go.Proofs.Yticidhkilfkgbaa
