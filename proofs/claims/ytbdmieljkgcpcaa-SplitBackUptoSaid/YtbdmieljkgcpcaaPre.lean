/- What this seat's walks share. -/
import Derived.Test.YtbdmieljkgcpcaaV4
import Derived.Test.YtbdmieljkgcpcaaProg
import Derived.Test.YtbdmieljkgcpcaaTy
namespace Go.Proofs.Ytbdmieljkgcpcaa
set_option linter.unusedSimpArgs false
set_option linter.unusedVariables false
open Go Go.Abs

def SL : TypeId → List (Nat × Nat) := fun _ => []
theorem slx (t : TypeId) : SL t = [] := rfl
theorem hmix : Try.prog.follows .mixedOrders = true := by kernel_rfl

def need (x : Int) : Int := if x = 127 ∨ x = 126 then 1 else if x = 123 then 2 else 0
def image : List Int → List Int
  | [] => []
  | t :: l => (if t = 123 then [126, 126] else if t = 127 ∨ t = 126 then [t] else []) ++ image l
theorem image_append (a b : List Int) : image (a ++ b) = image a ++ image b := by
  induction a with
  | nil => rfl
  | cons x a ih => simp [image, ih]
theorem image_len (l : List Int) : (image l).length ≤ 2 * l.length := by
  induction l with
  | nil => simp [image]
  | cons x l ih => simp only [image, List.length_append, List.length_cons]; split <;> (try split) <;> simp <;> omega
def ints (xs : List Int) : V := .view xs.length 1 (nums .i64 xs)
def offs (xs : List Int) : List Int := (List.range xs.length).map fun i => ((image (xs.take i)).length : Int)
def offsTo (xs : List Int) (k : Nat) : List Int := (List.range k).map fun i => ((image (xs.take i)).length : Int)
theorem offsTo_succ (xs : List Int) (k : Nat) : offsTo xs (k + 1) = offsTo xs k ++ [((image (xs.take k)).length : Int)] := by
  simp [offsTo, List.range_succ]
theorem offsTo_take (xs : List Int) (k : Nat) : List.take k (offsTo xs k) = offsTo xs k := List.take_of_length_le (by simp [offsTo])
theorem offsTo_len (xs : List Int) (k : Nat) : (offsTo xs k).length = k := by simp [offsTo]
abbrev Sg := List Int × List Int
def sigC : List Sg → List V
  | [] => []
  | s :: l => .view s.1.length 1 (nums .i64 s.1) :: .view s.2.length 1 (nums .i64 s.2) :: sigC l
theorem sigC_len (l : List Sg) : (sigC l).length = l.length * 2 := by
  induction l with
  | nil => rfl
  | cons s l ih => simp only [sigC, List.length_cons, ih]; omega
theorem sig_drop (l : List Sg) (k : Nat) (h : k < l.length) : List.drop (k * 2) (sigC l) = .view (l.getD k ([], [])).1.length 1 (nums .i64 (l.getD k ([], [])).1) :: .view (l.getD k ([], [])).2.length 1 (nums .i64 (l.getD k ([], [])).2) :: List.drop ((k + 1) * 2) (sigC l) := by
  induction l generalizing k with
  | nil => exact absurd h (Nat.not_lt_zero _)
  | cons s l ih =>
    cases k with
    | zero => simp [sigC]
    | succ k =>
      have := ih k (by simpa using h)
      simp only [List.getD_cons_succ]
      have e1 : (k + 1) * 2 = k * 2 + 1 + 1 := by omega
      have e2 : (k + 1 + 1) * 2 = (k + 1) * 2 + 1 + 1 := by omega
      rw [e1, e2, sigC, List.drop_succ_cons, List.drop_succ_cons, List.drop_succ_cons, List.drop_succ_cons]
      exact this
/-- all rows of types are short -/
def small (l : List Sg) : Prop := ∀ s ∈ l, s.1.length * 16 ≤ 140737488351232 ∧ s.2.length * 16 ≤ 140737488351232
theorem small_at {l : List Sg} (h : small l) {k : Nat} (hk : k < l.length) : (l.getD k ([], [])).1.length * 16 ≤ 140737488351232 ∧ (l.getD k ([], [])).2.length * 16 ≤ 140737488351232 := by
  have e : l.getD k ([], []) = l[k] := by simp [List.getD, hk]
  rw [e]; exact h _ (List.getElem_mem hk)
def modC (n : Nat) (l : List Sg) : List V := [.view n 2 (sigC l), .nils, .nils, .nils, .nils, .nils, .nils, .int .i64 0, .nils, .nils, .nils]
theorem sg_eq (a b : Sg) : (decide (a.1 = b.1) && decide (a.2 = b.2)) = decide (a = b) := by
  rcases a with ⟨a1, a2⟩; rcases b with ⟨b1, b2⟩
  simp [Prod.ext_iff]
def firstEq : List Sg → Sg → Nat
  | [], _ => 0
  | t :: l, s => if t = s then 0 else firstEq l s + 1
theorem firstEq_le (l : List Sg) (s : Sg) : firstEq l s ≤ l.length := by
  induction l with
  | nil => exact Nat.le_refl _
  | cons t l ih => simp only [firstEq]; split <;> simp; exact ih
theorem firstEq_at (l : List Sg) (s : Sg) (k : Nat) (h : ∀ i, i < k → l.getD i ([], []) ≠ s) (hk : k < l.length) (hs : l.getD k ([], []) = s) : firstEq l s = k := by
  induction l generalizing k with
  | nil => exact absurd hk (Nat.not_lt_zero _)
  | cons t l ih =>
    cases k with
    | zero => simp only [List.getD_cons_zero] at hs; simp [firstEq, hs]
    | succ k =>
      have h0 := h 0 (by omega)
      simp only [List.getD_cons_zero] at h0
      simp only [firstEq, if_neg h0]
      rw [ih k (fun i hi => by have := h (i + 1) (by omega); simpa using this) (by simpa using hk) (by simpa using hs)]
theorem firstEq_none (l : List Sg) (s : Sg) (h : ∀ i, i < l.length → l.getD i ([], []) ≠ s) : ∀ k, k < l.length → l.getD k ([], []) ≠ s := h
/-- the document's Canon -/
def canon (l : List Sg) (k : Int) : Int := if k < 0 ∨ k ≥ l.length then -1 else firstEq l (l.getD k.toNat ([], []))
/-- the document's Block -/
def block (l : List Sg) (a : Int) : Int × Int :=
  if a = -1 ∨ a = -2 then (0, 1) else if a = -5 then (0, 2) else if a < 0 ∨ a ≥ l.length then (0, 0)
  else ((image (l.getD a.toNat ([], [])).1).length, (image (l.getD a.toNat ([], [])).2).length)
end Go.Proofs.Ytbdmieljkgcpcaa
