/- the value of bits. -/
import Derived.Test.YticidhkilfkgbaaV4
import Derived.Test.YticidhkilfkgbaaRefpre
namespace Go.Proofs.Yticidhkilfkgbaa
set_option linter.unusedSimpArgs false
set_option linter.unusedVariables false
open Go Go.Abs

def val : List Int → Int
  | [] => 0
  | b :: l => b + 2 * val l
def bits01 (l : List Int) : Prop := ∀ b ∈ l, b = 0 ∨ b = 1
theorem val_append (a b : List Int) : val (a ++ b) = val a + 2 ^ a.length * val b := by
  induction a with
  | nil => simp [val]
  | cons x a ih =>
    simp only [List.cons_append, val, ih, List.length_cons, Int.pow_succ]
    rw [Int.mul_add, Int.mul_comm (2 ^ a.length) 2, Int.mul_assoc]; omega
theorem val_bound {l : List Int} (h : bits01 l) : 0 ≤ val l ∧ val l < 2 ^ l.length := by
  induction l with
  | nil => exact ⟨by decide, by decide⟩
  | cons x l ih =>
    have h1 := ih (fun b hb => h b (List.mem_cons_of_mem _ hb))
    have h2 := h x (List.mem_cons_self ..)
    simp only [val, List.length_cons, Int.pow_succ]
    omega
theorem bits7_01 (x : Int) : bits01 (bits7 x) := by
  intro b hb
  simp only [bits7, List.mem_cons, List.not_mem_nil, or_false] at hb
  rcases hb with rfl | rfl | rfl | rfl | rfl | rfl | rfl <;> exact bitn_2 _ _
theorem bits01_append {a b : List Int} (ha : bits01 a) (hb : bits01 b) : bits01 (a ++ b) := by
  intro x hx; rcases List.mem_append.1 hx with h | h
  · exact ha x h
  · exact hb x h
theorem rRd_01 (sg : Bool) (bits : Int) : ∀ (xs : List Int) (k : Nat) (l : List Int) (at_ : Int), bits01 l → bits01 (rRd sg bits xs k l at_).1
  | [], _, _, _, _ => by intro b hb; cases hb
  | x :: t, k, l, at_, h => by
    rw [rRd]
    split
    · intro b hb; cases hb
    · split
      · exact bits01_append h (bits7_01 x)
      · exact rRd_01 sg bits t (k + 1) _ _ (bits01_append h (bits7_01 x))
theorem rSpec_01 (sg : Bool) (xs : List Int) (at_ bits : Int) : bits01 (rSpec sg xs at_ bits).1 := by
  rw [rSpec]; split
  · intro b hb; cases hb
  · exact rRd_01 _ _ _ _ _ _ (fun b hb => by cases hb)
theorem rRd_len (sg : Bool) (bits : Int) : ∀ (xs : List Int) (k : Nat) (l : List Int) (at_ : Int), (rRd sg bits xs k l at_).1.length ≤ l.length + 7 * xs.length ∧ ((rRd sg bits xs k l at_).2.2 = 0 → (rRd sg bits xs k l at_).1 ≠ [])
  | [], _, _, _ => ⟨Nat.zero_le _, by rw [rRd]; intro h; cases h⟩
  | x :: t, k, l, at_ => by
    rw [rRd]
    split
    · exact ⟨Nat.zero_le _, fun h => by cases h⟩
    · split
      · refine ⟨by rw [List.length_append, bits7_len, List.length_cons]; omega, fun _ h => ?_⟩
        have := congrArg List.length h
        rw [List.length_append, bits7_len] at this; simp at this
      · have := rRd_len sg bits t (k + 1) (l ++ bits7 x) (at_ + 1)
        rw [List.length_append, bits7_len] at this
        exact ⟨by rw [List.length_cons]; omega, this.2⟩
theorem rSpec_len (sg : Bool) (xs : List Int) (at_ bits : Int) : (rSpec sg xs at_ bits).1.length ≤ 7 * xs.length ∧ ((rSpec sg xs at_ bits).2.2 = 0 → (rSpec sg xs at_ bits).1 ≠ []) := by
  rw [rSpec]; split
  · exact ⟨Nat.zero_le _, fun h => by cases h⟩
  · have := rRd_len sg bits (xs.drop at_.toNat) 0 [] at_
    rw [List.length_drop] at this
    exact ⟨by simp only [List.length_nil] at this; omega, this.2⟩
theorem val_step {l : List Int} {i : Nat} {b : Int} (hl : bits01 l) (hi : l.length = i) (h64 : i < 64) (hb : b = 0 ∨ b = 1) :
    bitsOp .or .u64 (val l) (IntKind.u64.wrap (b * 2 ^ min i IntKind.u64.bits)) = val (l ++ [b]) := by
  have h1 := val_bound hl
  rw [hi] at h1
  have e2 : (2 : Int) ^ (i + 1) ≤ 2 ^ 64 := by exact_mod_cast Nat.pow_le_pow_right (by decide) (by omega)
  have e3 : (2 : Int) ^ (i + 1) = 2 ^ i * 2 := Int.pow_succ ..
  have e4 : b * 2 ^ i = 0 ∨ b * 2 ^ i = 2 ^ i := by rcases hb with rfl | rfl <;> simp
  rw [show min i IntKind.u64.bits = i from Nat.min_eq_left (by show _ ≤ 64; omega)]
  rw [wrap_in (k := .u64) rfl (by omega) (by show _ < (2 : Int) ^ 64; omega), or_add (k := .u64) i h1.1 h1.2 (by omega) (by show _ < (2 : Int) ^ 64; omega) (.inl rfl), val_append, hi]
  simp only [val, Int.mul_zero, Int.add_zero]
  rw [Int.mul_comm b]
end Go.Proofs.Yticidhkilfkgbaa
