/- Signatures of 64-bit halves alone, and replies for them. -/
import Derived.Test.YtbnkjbdbcckcmaaV5
import Derived.Test.YtbnkjbdbcckcmaaHCall
namespace Go.Proofs.Ytbnkjbdbcckcmaa
set_option linter.unusedSimpArgs false
set_option linter.unusedVariables false
open Go Go.Abs

theorem rep_ok (n : Nat) : okTs (List.replicate n 126) = true := by
  induction n with
  | zero => rfl
  | succ n ih => rw [List.replicate_succ]; simp only [okTs, List.all_cons] at ih ⊢; rw [ih]; rfl
theorem rep_width (n : Nat) : widthL (List.replicate n 126) = n := by
  induction n with
  | zero => rfl
  | succ n ih => rw [List.replicate_succ, widthL, ih]; simp [need]; omega
theorem lo_join {x : Int} (h : 0 ≤ x ∧ x < 2 ^ 64) : lo (join x 0) = x := by
  unfold lo join
  rw [List.take_left' (by rw [toB_len]), le_toB]
  omega
theorem rep_put {xs : List Int} (h : u64s xs) : putL (List.replicate xs.length 126) (takeL (List.replicate xs.length 126) xs) = xs := by
  induction xs with
  | nil => rfl
  | cons x xs ih =>
    rw [List.length_cons, List.replicate_succ, takeL, putL]
    have e : (x :: xs).drop (need 126) = xs := rfl
    rw [e, ih (fun y hy => h y (List.mem_cons_of_mem _ hy))]
    have hx := h x (List.mem_cons_self ..)
    have : put1 126 (take1 126 (x :: xs)) = [x] := by
      simp only [put1, take1, Int.reduceEq, ↓reduceIte, List.getD_cons_zero, lo_join hx]
    rw [this]; rfl
theorem rep_app1 (n : Nat) (x : Int) : nums .i64 (List.replicate n x) ++ [V.int .i64 x] = nums .i64 (List.replicate (n + 1) x) := by
  rw [List.replicate_succ']; simp [nums]
theorem rep_nums (n : Nat) (x : Int) : List.take n (nums .i64 (List.replicate n x)) = nums .i64 (List.replicate n x) := List.take_of_length_le (by rw [nums_length, List.length_replicate]; exact Nat.le_refl _)
theorem rep_numsl (n : Nat) (x : Int) : (nums .i64 (List.replicate n x)).length = n := by rw [nums_length, List.length_replicate]
theorem repl_take (n : Nat) (x : Int) : List.take n (List.replicate n x) = List.replicate n x := List.take_of_length_le (by simp)
theorem repl_app (n : Nat) (x : Int) : List.replicate n x ++ [x] = List.replicate (n + 1) x := List.replicate_succ'.symm
/-- replies for n halves -/
theorem give_rep (n : Nat) (h : Hs) : giveS (List.replicate n 126) h = ((List.range n).map (fun k => h.R.getD k 0), { h with R := h.R.drop n }) := by
  induction n generalizing h with
  | zero => rfl
  | succ n ih =>
    rw [List.replicate_succ, giveS, if_neg (by decide), ih]
    obtain ⟨R, L, C⟩ := h
    cases R with
    | nil =>
      simp only [nextS, List.getD_nil, List.drop_nil]
      rw [List.range_succ_eq_map, List.map_cons, List.map_map]; rfl
    | cons x R =>
      simp only [nextS]
      rw [List.range_succ_eq_map, List.map_cons, List.map_map]
      rfl
end Go.Proofs.Ytbnkjbdbcckcmaa
