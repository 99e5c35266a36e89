/- Halves by the image, in plain. -/
import Derived.Test.YtbdmieljkgcpcaaV5
import Derived.Test.YtbdmieljkgcpcaaPCutl
namespace Go.Proofs.Ytbdmieljkgcpcaa
set_option linter.unusedSimpArgs false
set_option linter.unusedVariables false
open Go Go.Abs

theorem image_width {ts : List Int} (h : okTs ts = true) : (image ts).length = widthL ts := by
  induction ts with
  | nil => rfl
  | cons t ts ih =>
    obtain ⟨h1, h2⟩ := okTs_cons h
    rw [image, List.length_append, ih h2, widthL]
    rcases need_cases t with rfl | rfl | rfl | ⟨h0, _⟩
    · rfl
    · rfl
    · rfl
    · exact absurd h0 h1
theorem image_in (ts : List Int) : ∀ t ∈ image ts, t = 127 ∨ t = 126 := by
  induction ts with
  | nil => intro t h; cases h
  | cons x l ih =>
    intro t h
    simp only [image, List.mem_append] at h
    rcases h with h | h
    · split at h
      · simp at h; exact .inr h
      · split at h
        · rename_i h2; simp at h; subst h; exact h2
        · cases h
    · exact ih t h
theorem okTs_image (ts : List Int) : okTs (image ts) = true := by
  unfold okTs; rw [List.all_eq_true]; intro t ht
  rcases image_in ts t ht with rfl | rfl <;> decide
theorem image_same {l : List Int} (h : ∀ t ∈ l, t = 127 ∨ t = 126) : image l = l := by
  induction l with
  | nil => rfl
  | cons x l ih =>
    rw [image, ih (fun t ht => h t (List.mem_cons_of_mem _ ht))]
    rcases h x (List.mem_cons_self ..) with rfl | rfl <;> rfl
theorem image_image (ts : List Int) : image (image ts) = image ts := image_same (image_in ts)
theorem widthL_image (ts : List Int) : widthL (image ts) = (image ts).length := by
  rw [← image_width (okTs_image ts), image_image]
theorem lo_join {x : Int} (h : 0 ≤ x ∧ x < 2 ^ 64) (y : Int) : lo (join x y) = x := by
  unfold lo join
  rw [List.take_append_of_le_length (by rw [toB_len]; exact Nat.le_refl _), List.take_of_length_le (by rw [toB_len]; exact Nat.le_refl _), le_toB]
  exact Int.emod_eq_of_lt h.1 h.2
theorem step127 (ts hs : List Int) {h : Int} (h0 : 0 ≤ h ∧ h < 4294967296) : putL (127 :: ts) (takeL (127 :: ts) (h :: hs)) = h :: putL ts (takeL ts hs) := by
  rw [takeL, putL]
  simp only [put1, take1, ↓reduceIte, List.getD_cons_zero, needP]
  rw [show h % 4294967296 = h from by omega, lo_join ⟨h0.1, by simp only [Int.reducePow]; omega⟩, show h % 4294967296 = h from by omega]
  rfl
theorem step126 (ts hs : List Int) {h : Int} (h0 : 0 ≤ h ∧ h < 2 ^ 64) : putL (126 :: ts) (takeL (126 :: ts) (h :: hs)) = h :: putL ts (takeL ts hs) := by
  rw [takeL, putL]
  simp only [put1, take1, Int.reduceEq, ↓reduceIte, List.getD_cons_zero, needP]
  rw [lo_join h0]
  rfl
theorem put_image (ts : List Int) (vs : List (List Int)) (hok : okTs ts = true) (hl : ts.length = vs.length) (hv : vecs vs) : putL (image ts) (takeL (image ts) (putL ts vs)) = putL ts vs := by
  induction ts generalizing vs with
  | nil => rfl
  | cons t ts ih =>
    cases vs with
    | nil => cases hl
    | cons v vs =>
      obtain ⟨h1, h2⟩ := okTs_cons hok
      have hvv := hv v (List.mem_cons_self ..)
      have ih := ih vs h2 (by simpa using hl) (fun x hx => hv x (List.mem_cons_of_mem _ hx))
      have hlo := lo_bound hvv.2 hvv.1
      have hhi := hi_bound hvv.2 hvv.1
      rw [putL]
      rcases need_cases t with rfl | rfl | rfl | ⟨h0, _⟩
      · show putL (127 :: image ts) (takeL (127 :: image ts) (lo v % 4294967296 :: putL ts vs)) = lo v % 4294967296 :: putL ts vs
        rw [step127 _ _ (by omega), ih]
      · show putL (126 :: image ts) (takeL (126 :: image ts) (lo v :: putL ts vs)) = lo v :: putL ts vs
        rw [step126 _ _ hlo, ih]
      · show putL (126 :: 126 :: image ts) (takeL (126 :: 126 :: image ts) (lo v :: hi v :: putL ts vs)) = lo v :: hi v :: putL ts vs
        rw [step126 _ _ hlo, step126 _ _ hhi, ih]
      · exact absurd h0 h1
theorem putL_drop (ts : List Int) (vs : List (List Int)) (hok : okTs ts = true) (hl : ts.length = vs.length) {k : Nat} (hk : k < ts.length) : (putL ts vs).drop (image (ts.take k)).length = put1 (ts.getD k 0) (vs.getD k []) ++ putL (ts.drop (k + 1)) (vs.drop (k + 1)) := by
  induction ts generalizing vs k with
  | nil => exact absurd hk (Nat.not_lt_zero _)
  | cons t ts ih =>
    cases vs with
    | nil => cases hl
    | cons v vs =>
      obtain ⟨h1, h2⟩ := okTs_cons hok
      cases k with
      | zero => rfl
      | succ k =>
        have ih := ih vs h2 (by simpa using hl) (k := k) (by simpa using hk)
        rw [List.take_succ_cons, List.getD_cons_succ, List.getD_cons_succ, List.drop_succ_cons, List.drop_succ_cons, ← ih, image, List.length_append, putL]
        have e : (put1 t v).length = (if t = 123 then [126, 126] else if t = 127 ∨ t = 126 then [t] else []).length := by
          rcases need_cases t with rfl | rfl | rfl | ⟨h0, _⟩
          · rfl
          · rfl
          · rfl
          · exact absurd h0 h1
        rw [← e, ← List.drop_drop, List.drop_left]
theorem takeL_len (ts hs : List Int) : (takeL ts hs).length = ts.length := by
  induction ts generalizing hs with
  | nil => rfl
  | cons t ts ih => rw [takeL, List.length_cons, ih, List.length_cons]
theorem takeL_vecs (ts hs : List Int) : vecs (takeL ts hs) := by
  induction ts generalizing hs with
  | nil => intro v hv; cases hv
  | cons t ts ih =>
    intro v hv
    rw [takeL] at hv
    rcases List.mem_cons.1 hv with rfl | hv
    · exact take1_ok _ _
    · exact ih _ v hv
theorem offs_at (ts : List Int) {n k : Nat} (h : k < n) : (offsTo ts n).getD k 0 = ((image (ts.take k)).length : Nat) := by
  simp only [offsTo, List.getD_eq_getElem?_getD, List.getElem?_map]
  rw [List.getElem?_range h]; rfl
theorem getD_drop (l : List Int) (n k : Nat) : l.getD (n + k) 0 = (l.drop n).getD k 0 := by
  simp only [List.getD_eq_getElem?_getD, List.getElem?_drop]
theorem len_drop {l : List Int} {n : Nat} {a b : List Int} (h : l.drop n = a ++ b) : n + a.length ≤ l.length ∨ a = [] := by
  cases a with
  | nil => exact .inr rfl
  | cons x a =>
    left
    have := congrArg List.length h
    rw [List.length_drop, List.length_append] at this
    simp only [List.length_cons] at this ⊢; omega
end Go.Proofs.Ytbdmieljkgcpcaa
