/- the document's reading, bit by bit. -/
import Derived.Test.YticidhkilfkgbaaV4
import Derived.Test.YticidhkilfkgbaaBit
namespace Go.Proofs.Yticidhkilfkgbaa
set_option linter.unusedSimpArgs false
set_option linter.unusedVariables false
open Go Go.Abs

def bits7 (x : Int) : List Int := [bitn x 0, bitn x 1, bitn x 2, bitn x 3, bitn x 4, bitn x 5, bitn x 6]
theorem bits7_at (x : Int) (i : Nat) (h : i < 7) : (bits7 x).getD i 0 = bitn x i := by
  have : i = 0 ∨ i = 1 ∨ i = 2 ∨ i = 3 ∨ i = 4 ∨ i = 5 ∨ i = 6 := by omega
  rcases this with rfl | rfl | rfl | rfl | rfl | rfl | rfl <;> rfl
theorem bits7_take (x : Int) (i : Nat) (h : i < 7) : (bits7 x).take (i + 1) = (bits7 x).take i ++ [bitn x i] := by
  have : i = 0 ∨ i = 1 ∨ i = 2 ∨ i = 3 ∨ i = 4 ∨ i = 5 ∨ i = 6 := by omega
  rcases this with rfl | rfl | rfl | rfl | rfl | rfl | rfl <;> rfl
theorem bits7_len (x : Int) : (bits7 x).length = 7 := rfl
theorem bits7_all (x : Int) : (bits7 x).take 7 = bits7 x := rfl
theorem bit_7 {x : Int} (h : byte x) : bitn x 7 = if x ≥ 128 then 1 else 0 := by
  obtain ⟨h0, h1⟩ := h
  show x / 2 ^ 7 % 2 = _
  simp only [Int.reducePow]
  split <;> omega
theorem getD_take (l m : List Int) (i j : Nat) (h : j < l.length + i) : (l ++ m.take i).getD j 0 = (l ++ m).getD j 0 := by
  simp only [List.getD_eq_getElem?_getD, List.getElem?_append]
  split
  · rfl
  · rw [List.getElem?_take, if_pos (by omega)]
theorem ld_lt {k : IntKind} {xs : List Int} {n : Nat} (h : n < xs.length) : n < (nums k xs).length := by simpa [nums] using h
theorem own_getD {k : IntKind} {xs : List Int} {n : Nat} (h : n < xs.length) : (nums k xs).getD n .any = .int k (xs.getD n 0) := by
  simp [nums, List.getD_eq_getElem?_getD, h]
theorem ld_ex {k : IntKind} {xs : List Int} {n : Nat} (h : n < xs.length) : ∃ m, (nums k xs).getD n .any = .int k m := ⟨_, own_getD h⟩
def badAt (sg : Bool) (bits : Int) (k : Nat) (x : Int) (l : List Int) (i : Nat) : Prop :=
  7 * (k : Int) + i ≥ bits ∧ ((sg = true → bitn x i ≠ (l ++ bits7 x).getD (bits - 1).toNat 0) ∧ (sg = false → bitn x i = 1))
noncomputable def rRd (sg : Bool) (bits : Int) : List Int → Nat → List Int → Int → List Int × Int × Int
  | [], _, _, _ => ([], 0, 5)
  | x :: t, k, l, at_ =>
    open Classical in
    if (∃ i, i < 7 ∧ badAt sg bits k x l i) ∨ (7 * ((k : Int) + 1) ≥ bits ∧ x ≥ 128) then ([], 0, 6)
    else if x < 128 then (l ++ bits7 x, at_ + 1, 0) else rRd sg bits t (k + 1) (l ++ bits7 x) (at_ + 1)
noncomputable def rSpec (sg : Bool) (xs : List Int) (at_ bits : Int) : List Int × Int × Int :=
  if bits < 1 ∨ bits > 64 ∨ at_ < 0 ∨ at_ > xs.length then ([], 0, 1) else rRd sg bits (xs.drop at_.toNat) 0 [] at_
end Go.Proofs.Yticidhkilfkgbaa
