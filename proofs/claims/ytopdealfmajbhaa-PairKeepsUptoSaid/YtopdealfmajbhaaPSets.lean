/- What is set is read again: in plain. -/
import Derived.Test.YtopdealfmajbhaaV5
import Derived.Test.YtopdealfmajbhaaPlain
namespace Go.Proofs.Ytopdealfmajbhaa
set_option linter.unusedSimpArgs false
set_option linter.unusedVariables false
open Go Go.Abs

theorem splice_take {l m : List Int} {o : Nat} (h : o + m.length ≤ l.length) : ((splice l o m).drop o).take m.length = m := by
  have e1 : (l.take o).length = o := by rw [List.length_take]; omega
  unfold splice
  rw [List.append_assoc, List.drop_append, List.drop_of_length_le (by omega), e1, Nat.sub_self, List.nil_append, List.drop_zero, List.take_append_of_le_length (Nat.le_refl _), List.take_length]
theorem splice_before {l m : List Int} {o p n : Nat} (h : o + m.length ≤ l.length) (hp : p + n ≤ o) : ((splice l o m).drop p).take n = (l.drop p).take n := by
  have e1 : (l.take o).length = o := by rw [List.length_take]; omega
  unfold splice
  rw [List.append_assoc, List.drop_append, List.take_append_of_le_length (by rw [List.length_drop, e1]; omega), List.drop_take, List.take_take, Nat.min_eq_left (by omega)]
theorem splice_after {l m : List Int} {o p n : Nat} (h : o + m.length ≤ l.length) (hp : o + m.length ≤ p) : ((splice l o m).drop p).take n = (l.drop p).take n := by
  have e1 : (l.take o).length = o := by rw [List.length_take]; omega
  unfold splice
  rw [List.drop_append, List.drop_of_length_le (by rw [List.length_append, e1]; exact hp), List.nil_append, List.length_append, e1, List.drop_drop]
  congr 2; omega
theorem lane_pow {w : Int} (h : lanes w ≠ 0) : (2 : Int) ^ (8 * wb w) = 2 ^ w.toNat := by
  rcases lanes_pos h with rfl | rfl | rfl | rfl <;> rfl
theorem get_set {v : List Int} {w x : Int} {i k : Nat} (hl : v.length = 16) (hi : i < lanes w) (hk : k < lanes w) : get (set v w i x) w k = if k = i then x % 2 ^ w.toNat else get v w k := by
  obtain ⟨h0, h1⟩ := lane_in hi
  obtain ⟨_, h2⟩ := lane_in hk
  have hb : i * wb w + (toB (wb w) x).length ≤ v.length := by rw [toB_len, hl]; exact h1
  have es : set v w i x = splice v (i * wb w) (toB (wb w) x) := by unfold set; rw [if_pos (by omega), Int.toNat_natCast]
  have eg : ∀ u, get u w k = le ((u.drop (k * wb w)).take (wb w)) := fun u => by unfold get; rw [if_pos (by omega), Int.toNat_natCast]
  rw [eg, eg, es]
  by_cases hki : k = i
  · subst hki
    rw [if_pos rfl]
    have := splice_take hb
    rw [toB_len] at this
    rw [this, le_toB, lane_pow h0]
  · rw [if_neg hki]
    congr 1
    by_cases hlt : k < i
    · have : (k + 1) * wb w ≤ i * wb w := Nat.mul_le_mul_right _ hlt
      rw [Nat.add_mul, Nat.one_mul] at this
      exact splice_before hb this
    · have : (i + 1) * wb w ≤ k * wb w := Nat.mul_le_mul_right _ (by omega)
      rw [Nat.add_mul, Nat.one_mul] at this
      exact splice_after hb (by rw [toB_len]; exact this)
theorem signed_set {v : List Int} {w x : Int} {i k : Nat} (hl : v.length = 16) (hi : i < lanes w) (hk : k < lanes w) : signed (set v w i x) w k = sgn w (if k = i then x % 2 ^ w.toNat else get v w k) := by
  unfold signed; rw [if_neg (by omega), get_set hl hi hk]
def lanesTo (v : List Int) (w : Int) (k : Nat) : List Int := (List.range k).map fun i => get v w (i : Nat)
theorem lanesTo_len (v : List Int) (w : Int) (k : Nat) : (lanesTo v w k).length = k := by simp [lanesTo]
theorem sets_lanes {v : List Int} {w : Int} (hl : v.length = 16) (hb : bytes v) {k : Nat} (hk : k ≤ lanes w) : sets w zero16 0 (lanesTo v w k) = v.take (k * wb w) ++ zero16.drop (k * wb w) := by
  induction k with
  | zero => simp [lanesTo, sets]
  | succ k ih =>
    obtain ⟨h0, h1⟩ := lane_in (w := w) (i := k) (by omega)
    have e1 : lanesTo v w (k + 1) = lanesTo v w k ++ [get v w k] := by simp [lanesTo, List.range_succ]
    have e2 : ((v.drop (k * wb w)).take (wb w)).length = wb w := by rw [List.length_take, List.length_drop]; omega
    have e3 : toB (wb w) (get v w k) = (v.drop (k * wb w)).take (wb w) := by
      unfold get; rw [if_pos (by omega), Int.toNat_natCast]
      have := toB_le (bytes_take (bytes_drop hb (k * wb w)) (wb w))
      rw [e2] at this; exact this
    rw [e1, sets_snoc, ih (by omega), lanesTo_len, Nat.zero_add]
    unfold set; rw [if_pos (by omega), Int.toNat_natCast, e3]
    unfold splice
    rw [e2, Nat.add_mul, Nat.one_mul]
    have e4 : (v.take (k * wb w)).length = k * wb w := by rw [List.length_take]; omega
    rw [List.take_append_of_le_length (by omega), List.take_of_length_le (by omega), ← List.take_add, List.drop_append, List.drop_of_length_le (by omega), List.nil_append, e4, List.drop_drop]
    congr 2; omega
theorem of_all {v : List Int} {w : Int} (hl : v.length = 16) (hb : bytes v) (h0 : lanes w ≠ 0) : of w (all v w) = v := by
  have e : of w (all v w) = sets w zero16 0 (lanesTo v w (lanes w)) := by
    unfold of
    rw [List.take_of_length_le (by simp [all])]; rfl
  rw [e, sets_lanes hl hb (Nat.le_refl _), (lanes_wb h0).1, List.take_of_length_le (by omega), show zero16.drop 16 = [] from rfl, List.append_nil]
theorem all_nonneg {v : List Int} (hb : bytes v) (w : Int) : ∀ x ∈ all v w, 0 ≤ x := by
  intro x hx
  unfold all at hx
  obtain ⟨k, _, rfl⟩ := List.mem_map.1 hx
  exact (get_bound _ _ hb).1
theorem get_two {v : List Int} {w : Int} {i : Nat} (hl : v.length = 16) (hb : bytes v) (hw : w = 16 ∨ w = 32 ∨ w = 64) (hi : i < lanes w) :
    bitsOp .or .u64 (get v (w / 2) ((2 * i : Nat) : Int)) (IntKind.u64.wrap (get v (w / 2) ((2 * i + 1 : Nat) : Int) * 2 ^ (w / 2).toNat)) = get v w i := by
  obtain ⟨h0, h1⟩ := lane_in hi
  obtain ⟨m, hm, hm2, hm3, hm4⟩ : ∃ m, wb (w / 2) = m ∧ wb w = 2 * m ∧ lanes (w / 2) = 2 * lanes w ∧ (w / 2).toNat = 8 * m ∧ 16 * m ≤ 64 := by
    rcases hw with rfl | rfl | rfl
    · exact ⟨1, by decide⟩
    · exact ⟨2, by decide⟩
    · exact ⟨4, by decide⟩
  have e0 : get v w i = le ((v.drop (i * (2 * m))).take (2 * m)) := by unfold get; rw [if_pos (by omega), Int.toNat_natCast, hm2]
  have e1 : get v (w / 2) ((2 * i : Nat) : Int) = le ((v.drop (i * (2 * m))).take m) := by
    unfold get; rw [if_pos (by omega), Int.toNat_natCast, hm, show 2 * i * m = i * (2 * m) from by rw [Nat.mul_comm 2 i, Nat.mul_assoc]]
  have e2 : get v (w / 2) ((2 * i + 1 : Nat) : Int) = le ((v.drop (i * (2 * m) + m)).take m) := by
    unfold get; rw [if_pos (by omega), Int.toNat_natCast, hm, show (2 * i + 1) * m = i * (2 * m) + m from by rw [Nat.add_mul, Nat.one_mul, Nat.mul_comm 2 i, Nat.mul_assoc]]
  rw [hm2] at h1
  have l1 : ((v.drop (i * (2 * m))).take m).length = m := by rw [List.length_take, List.length_drop]; omega
  have l2 : ((v.drop (i * (2 * m) + m)).take m).length = m := by rw [List.length_take, List.length_drop]; omega
  have b1 := le_bound (bytes_take (bytes_drop hb (i * (2 * m))) m)
  have b2 := le_bound (bytes_take (bytes_drop hb (i * (2 * m) + m)) m)
  rw [l1] at b1; rw [l2] at b2
  have e3 : le ((v.drop (i * (2 * m))).take (2 * m)) = le ((v.drop (i * (2 * m))).take m) + le ((v.drop (i * (2 * m) + m)).take m) * 2 ^ (8 * m) := by
    rw [show 2 * m = m + m from by omega, List.take_add, le_append, List.drop_drop, ← show 2 * m = m + m from by omega, l1, Int.mul_comm]
  rw [e0, e1, e2, e3, hm4.1]
  generalize le ((v.drop (i * (2 * m))).take m) = a at *
  generalize le ((v.drop (i * (2 * m) + m)).take m) = b at *
  have hp : (0 : Int) < 2 ^ (8 * m) := Int.pow_pos (by decide)
  have h2 : (2 : Int) ^ (8 * m) * 2 ^ (8 * m) ≤ 2 ^ 64 := by
    rw [← Int.pow_add]; exact_mod_cast Nat.pow_le_pow_right (by decide) (by omega)
  have h3 : b * 2 ^ (8 * m) ≤ (2 ^ (8 * m) - 1) * 2 ^ (8 * m) := Int.mul_le_mul_of_nonneg_right (by omega) (by omega)
  rw [Int.sub_mul, Int.one_mul] at h3
  have h4 : 0 ≤ b * 2 ^ (8 * m) := Int.mul_nonneg b2.1 (by omega)
  have e5 : IntKind.u64.wrap (b * 2 ^ (8 * m)) = b * 2 ^ (8 * m) := wrap_in rfl h4 (by show _ < (2 : Int) ^ 64; omega)
  rw [e5]
  exact or_add (k := .u64) (8 * m) b1.1 b1.2 b2.1 (by show _ < (2 : Int) ^ 64; omega) (.inl rfl)
theorem cut_law {w x : Int} (hw : lanes w ≠ 0) (h0 : 0 ≤ x) (h1 : x < 2 ^ 64) :
    (IntKind.u64.wrap (x * 2 ^ min (64 - w).toNat IntKind.u64.bits)).fdiv (2 ^ min (64 - w).toNat IntKind.u64.bits) = x % 2 ^ w.toNat := by
  have h1' : x < 18446744073709551616 := h1
  rcases lanes_pos hw with rfl | rfl | rfl | rfl
  · rw [show min ((64 - 8 : Int).toNat) IntKind.u64.bits = 56 from rfl, Int.fdiv_eq_ediv_of_nonneg _ (by decide), show (8 : Int).toNat = 8 from rfl]
    simp only [IntKind.wrap_u64, Int.reducePow]
    omega
  · rw [show min ((64 - 16 : Int).toNat) IntKind.u64.bits = 48 from rfl, Int.fdiv_eq_ediv_of_nonneg _ (by decide), show (16 : Int).toNat = 16 from rfl]
    simp only [IntKind.wrap_u64, Int.reducePow]
    omega
  · rw [show min ((64 - 32 : Int).toNat) IntKind.u64.bits = 32 from rfl, Int.fdiv_eq_ediv_of_nonneg _ (by decide), show (32 : Int).toNat = 32 from rfl]
    simp only [IntKind.wrap_u64, Int.reducePow]
    omega
  · rw [show min ((64 - 64 : Int).toNat) IntKind.u64.bits = 0 from rfl, Int.fdiv_eq_ediv_of_nonneg _ (by decide), show (64 : Int).toNat = 64 from rfl]
    simp only [IntKind.wrap_u64, Int.reducePow]
    omega
theorem sgu_law {w g : Int} (hw : lanes w ≠ 0) :
    (IntKind.i64.wrap (IntKind.u64.wrap (g * 2 ^ min (64 - w).toNat IntKind.u64.bits))).fdiv (2 ^ min (64 - w).toNat IntKind.i64.bits) = sgn w g := by
  rcases lanes_pos hw with rfl | rfl | rfl | rfl
  · rw [show min ((64 - 8 : Int).toNat) IntKind.u64.bits = 56 from rfl, show min ((64 - 8 : Int).toNat) IntKind.i64.bits = 56 from rfl, Int.fdiv_eq_ediv_of_nonneg _ (by decide)]
    unfold sgn
    rw [show (8 : Int).toNat = 8 from rfl]
    simp only [IntKind.wrap_i64, IntKind.wrap_u64, Int.reducePow, Nat.reduceSub]
    split <;> omega
  · rw [show min ((64 - 16 : Int).toNat) IntKind.u64.bits = 48 from rfl, show min ((64 - 16 : Int).toNat) IntKind.i64.bits = 48 from rfl, Int.fdiv_eq_ediv_of_nonneg _ (by decide)]
    unfold sgn
    rw [show (16 : Int).toNat = 16 from rfl]
    simp only [IntKind.wrap_i64, IntKind.wrap_u64, Int.reducePow, Nat.reduceSub]
    split <;> omega
  · rw [show min ((64 - 32 : Int).toNat) IntKind.u64.bits = 32 from rfl, show min ((64 - 32 : Int).toNat) IntKind.i64.bits = 32 from rfl, Int.fdiv_eq_ediv_of_nonneg _ (by decide)]
    unfold sgn
    rw [show (32 : Int).toNat = 32 from rfl]
    simp only [IntKind.wrap_i64, IntKind.wrap_u64, Int.reducePow, Nat.reduceSub]
    split <;> omega
  · rw [show min ((64 - 64 : Int).toNat) IntKind.u64.bits = 0 from rfl, show min ((64 - 64 : Int).toNat) IntKind.i64.bits = 0 from rfl, Int.fdiv_eq_ediv_of_nonneg _ (by decide)]
    unfold sgn
    rw [show (64 : Int).toNat = 64 from rfl]
    simp only [IntKind.wrap_i64, IntKind.wrap_u64, Int.reducePow, Nat.reduceSub]
    split <;> omega
end Go.Proofs.Ytopdealfmajbhaa
