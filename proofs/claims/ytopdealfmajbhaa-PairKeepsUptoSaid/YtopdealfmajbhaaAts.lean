/- What a lane's place is. -/
import Derived.Test.YtopdealfmajbhaaV5
import Derived.Test.YtopdealfmajbhaaAll
namespace Go.Proofs.Ytopdealfmajbhaa
set_option linter.unusedSimpArgs false
set_option linter.unusedVariables false
open Go Go.Abs
attribute [local irreducible] AW AWL AC FW CW CWr IntKind.wrap

/-- a vector, a width, a lane, a number -/
abbrev AtS := List Int × Int × Int × Int
def at1 (x : AtS) : List V := nums .u8 x.1 ++ [.int .i64 x.2.1, .int .i64 x.2.2.1, .int .u64 x.2.2.2]
def atC : List AtS → List V
  | [] => []
  | x :: l => at1 x ++ atC l
def okAt (x : AtS) : Prop := x.1.length = 16 ∧ bytes x.1 ∧ 0 ≤ x.2.2.2 ∧ x.2.2.2 < 2 ^ 64
def nAt : AtS := ([], 0, 0, 0)
theorem at1_len {x : AtS} (h : okAt x) : (at1 x).length = 19 := by simp [at1, nums_length, h.1]
theorem atC_len {l : List AtS} (h : ∀ x ∈ l, okAt x) : (atC l).length = l.length * 19 := by
  induction l with
  | nil => rfl
  | cons x l ih => rw [atC, List.length_append, at1_len (h x (List.mem_cons_self ..)), ih (fun y hy => h y (List.mem_cons_of_mem _ hy)), List.length_cons]; omega
theorem atC_drop {l : List AtS} (h : ∀ x ∈ l, okAt x) {k : Nat} (hk : k < l.length) : (atC l).drop (k * 19) = at1 (l.getD k nAt) ++ atC (l.drop (k + 1)) := by
  induction l generalizing k with
  | nil => exact absurd hk (Nat.not_lt_zero _)
  | cons x l ih =>
    have hx := at1_len (h x (List.mem_cons_self ..))
    cases k with
    | zero => simp [atC]
    | succ k =>
      rw [atC, show (k + 1) * 19 = (at1 x).length + k * 19 from by rw [hx]; omega, List.drop_append, List.drop_of_length_le (by omega), List.nil_append, Nat.add_sub_cancel_left, ih (fun y hy => h y (List.mem_cons_of_mem _ hy)) (by simpa using hk)]
      simp
theorem at_mem {l : List AtS} (h : ∀ x ∈ l, okAt x) {k : Nat} (hk : k < l.length) : okAt (l.getD k nAt) := by
  have e : l.getD k nAt = l[k] := by simp [List.getD, hk]
  rw [e]; exact h _ (List.getElem_mem hk)
theorem at_load {l : List AtS} (h : ∀ x ∈ l, okAt x) {k : Nat} (hk : k < l.length) : List.take 19 (List.drop (k * 19) (atC l)) = at1 (l.getD k nAt) := by
  rw [atC_drop h hk, List.take_append_of_le_length (Nat.le_of_eq (at1_len (at_mem h hk)).symm), List.take_of_length_le (Nat.le_of_eq (at1_len (at_mem h hk)))]
theorem at_room {l : List AtS} (h : ∀ x ∈ l, okAt x) {k : Nat} (hk : k < l.length) : 19 ≤ (List.drop (k * 19) (atC l)).length := by
  rw [List.length_drop, atC_len h]; omega
theorem all_look (v : List Int) (hl : v.length = 16) (hb : bytes v) (w : Int) : AC Try.prog 14 [.fagg (nums .u8 v), .int .i64 w] (fun r m => r = .view (all v w).length 1 (nums .u64 (all v w)) ∧ m = []) :=
  (all_ok v hl hb w).look (by rw [nums_length, Nat.mul_one])
theorem all_len (v : List Int) (w : Int) : (all v w).length ≤ 16 := by
  unfold all; rw [List.length_map, List.length_range]
  unfold lanes; split
  · exact Nat.le_refl _
  · split
    · decide
    · split
      · decide
      · split <;> decide
end Go.Proofs.Ytopdealfmajbhaa
