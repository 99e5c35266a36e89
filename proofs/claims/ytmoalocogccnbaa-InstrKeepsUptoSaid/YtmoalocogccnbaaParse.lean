/- What the rows of the document's table say. -/
import Derived.Test.YtmoalocogccnbaaV5
import Derived.Test.YtmoalocogccnbaaWords
import Derived.Test.YtmoalocogccnbaaNumber
import Derived.Test.YtmoalocogccnbaaTyp
namespace Go.Proofs.Ytmoalocogccnbaa
set_option linter.unusedSimpArgs false
set_option linter.unusedVariables false
open Go Go.Abs

def colP : List UInt8 → Nat
  | [] => 0
  | c :: l => if c.toNat = 58 then 0 else colP l + 1
def sigOK (w : List UInt8) (g : List UInt8) : Bool :=
  if w = [45] then g.isEmpty else !g.isEmpty && decide (w.length ≤ 100) && decide (colP w < w.length) && decide (typesS (w.take (colP w)) = (sigS (byts g)).2.1) && decide (typesS (w.drop (colP w)) = (sigS (byts g)).2.2)
def rowOK (t : List UInt8) (r : Row) : Bool :=
  decide (t.length ≤ 1000) && (match wordsS t with
  | [a, b, c, d, e] => decide (a.length ≤ 5) && decide (b.length ≤ 5) && decide (c.length ≤ 5) && decide (d.length ≤ 5) && decide (numR 16 a = r.1) && decide (numR 16 b = r.2.1) && decide (numR 10 c = r.2.2.1) && decide (numR 10 d = r.2.2.2.1) && sigOK e r.2.2.2.2
  | _ => false)
def zipOK : List (List UInt8) → List Row → Bool
  | [], [] => true
  | t :: l, r :: m => rowOK t r && zipOK l m
  | _, _ => false
theorem tab_ok : zipOK tableR allR = true := by decide +kernel
theorem zip_at {l : List (List UInt8)} {m : List Row} (h : zipOK l m = true) {k : Nat} (hk : k < m.length) : rowOK (l.getD k []) (m.getD k nRow) = true := by
  induction l generalizing m k with
  | nil =>
    cases m with
    | nil => exact absurd hk (Nat.not_lt_zero _)
    | cons => cases h
  | cons t l ih =>
    cases m with
    | nil => exact absurd hk (Nat.not_lt_zero _)
    | cons r m =>
      rw [zipOK, Bool.and_eq_true] at h
      cases k with
      | zero => exact h.1
      | succ k => exact ih h.2 (by simpa using hk)
theorem col_at {w : List UInt8} (h : colP w < w.length) : (w.getD (colP w) 0).toNat = 58 := by
  induction w with
  | nil => exact absurd h (Nat.not_lt_zero _)
  | cons c w ih =>
    rw [colP] at h ⊢
    by_cases hc : c.toNat = 58
    · rw [if_pos hc]; exact hc
    · rw [if_neg hc] at h ⊢; exact ih (by simpa using h)
theorem col_before {w : List UInt8} {j : Nat} (h : j < colP w) : (w.getD j 0).toNat ≠ 58 := by
  induction w generalizing j with
  | nil => exact absurd h (Nat.not_lt_zero _)
  | cons c w ih =>
    rw [colP] at h
    by_cases hc : c.toNat = 58
    · rw [if_pos hc] at h; exact absurd h (Nat.not_lt_zero _)
    · rw [if_neg hc] at h
      cases j with
      | zero => exact hc
      | succ j => exact ih (by omega)
theorem row_facts {t : List UInt8} {r : Row} (h : rowOK t r = true) : t.length ≤ 1000 ∧ ∃ a b c d e, wordsS t = [a, b, c, d, e] ∧ a.length ≤ 5 ∧ b.length ≤ 5 ∧ c.length ≤ 5 ∧ d.length ≤ 5 ∧ numR 16 a = r.1 ∧ numR 16 b = r.2.1 ∧ numR 10 c = r.2.2.1 ∧ numR 10 d = r.2.2.2.1 ∧ sigOK e r.2.2.2.2 = true := by
  unfold rowOK at h
  rw [Bool.and_eq_true] at h
  refine ⟨of_decide_eq_true h.1, ?_⟩
  have h := h.2
  split at h
  · rename_i a b c d e he
    simp only [Bool.and_eq_true, decide_eq_true_eq] at h
    exact ⟨a, b, c, d, e, he, h.1.1.1.1.1.1.1.1, h.1.1.1.1.1.1.1.2, h.1.1.1.1.1.1.2, h.1.1.1.1.1.2, h.1.1.1.1.2, h.1.1.1.2, h.1.1.2, h.1.2, h.2⟩
  · cases h
theorem allR_len : allR.length = 108 := by decide +kernel
theorem tableR_len : tableR.length = 108 := by decide +kernel
end Go.Proofs.Ytmoalocogccnbaa
