/- Rows of vectors; values as halves. -/
import Derived.Test.YtbnkjbdbcckcmaaV5
import Derived.Test.YtbnkjbdbcckcmaaPre
namespace Go.Proofs.Ytbnkjbdbcckcmaa
set_option linter.unusedSimpArgs false
set_option linter.unusedVariables false
open Go Go.Abs

/-- vectors, as cells -/
def vecC : List (List Int) → List V
  | [] => []
  | v :: vs => nums .u8 v ++ vecC vs
def vecs (vs : List (List Int)) : Prop := ∀ v ∈ vs, v.length = 16 ∧ bytes v
theorem vecC_len {vs : List (List Int)} (h : vecs vs) : (vecC vs).length = vs.length * 16 := by
  induction vs with
  | nil => rfl
  | cons v vs ih =>
    rw [vecC, List.length_append, nums_length, ih (fun x hx => h x (List.mem_cons_of_mem _ hx)), (h v (List.mem_cons_self ..)).1, List.length_cons]; omega
theorem vecC_drop {vs : List (List Int)} (h : vecs vs) {k : Nat} (hk : k < vs.length) : (vecC vs).drop (k * 16) = nums .u8 (vs.getD k []) ++ vecC (vs.drop (k + 1)) := by
  induction vs generalizing k with
  | nil => exact absurd hk (Nat.not_lt_zero _)
  | cons v vs ih =>
    cases k with
    | zero => simp [vecC]
    | succ k =>
      have hv := (h v (List.mem_cons_self ..)).1
      rw [vecC, show (k + 1) * 16 = (nums .u8 v).length + k * 16 from by rw [nums_length, hv]; omega, List.drop_append, List.drop_of_length_le (by omega), List.nil_append, Nat.add_sub_cancel_left, ih (fun x hx => h x (List.mem_cons_of_mem _ hx)) (by simpa using hk)]
      simp
theorem vecC_append (a b : List (List Int)) : vecC (a ++ b) = vecC a ++ vecC b := by
  induction a with
  | nil => rfl
  | cons v a ih => simp [vecC, ih]
theorem vec_at {vs : List (List Int)} (h : vecs vs) {k : Nat} (hk : k < vs.length) : (vs.getD k []).length = 16 ∧ bytes (vs.getD k []) := by
  have e : vs.getD k [] = vs[k] := by simp [List.getD, hk]
  rw [e]; exact h _ (List.getElem_mem hk)
theorem vec_load {vs : List (List Int)} (h : vecs vs) {k : Nat} (hk : k < vs.length) : List.take 16 (List.drop (k * 16) (vecC vs)) = nums .u8 (vs.getD k []) := by
  rw [vecC_drop h hk, List.take_append_of_le_length (by rw [nums_length]; exact Nat.le_of_eq (vec_at h hk).1.symm), List.take_of_length_le (by rw [nums_length]; exact Nat.le_of_eq (vec_at h hk).1)]
theorem vec_room {vs : List (List Int)} (h : vecs vs) {k : Nat} (hk : k < vs.length) : 16 ≤ (List.drop (k * 16) (vecC vs)).length := by
  rw [List.length_drop, vecC_len h]; omega
theorem drop_getD {l : List Int} {k : Nat} (h : k < l.length) : l.drop k = l.getD k 0 :: l.drop (k + 1) := by
  rw [List.drop_eq_getElem_cons h]; simp [List.getD, h]
theorem drop_getDv {l : List (List Int)} {k : Nat} (h : k < l.length) : l.drop k = l.getD k [] :: l.drop (k + 1) := by
  rw [List.drop_eq_getElem_cons h]; simp [List.getD, h]
theorem need_cases (t : Int) : t = 127 ∨ t = 126 ∨ t = 123 ∨ (need t = 0 ∧ t ≠ 127 ∧ t ≠ 126 ∧ t ≠ 123) := by
  unfold need
  by_cases h1 : t = 127
  · exact .inl h1
  · by_cases h2 : t = 126
    · exact .inr (.inl h2)
    · by_cases h3 : t = 123
      · exact .inr (.inr (.inl h3))
      · refine .inr (.inr (.inr ⟨?_, h1, h2, h3⟩))
        rw [if_neg (by omega), if_neg h3]
theorem lo_bound {v : List Int} (h : bytes v) (hl : v.length = 16) : 0 ≤ lo v ∧ lo v < 2 ^ 64 := by
  have := le_bound (bytes_take h 8)
  rw [List.length_take, hl] at this; exact this
theorem hi_bound {v : List Int} (h : bytes v) (hl : v.length = 16) : 0 ≤ hi v ∧ hi v < 2 ^ 64 := by
  have := le_bound (bytes_drop h 8)
  rw [List.length_drop, hl] at this; exact this
/-- a value's halves -/
def put1 (t : Int) (v : List Int) : List Int := if t = 127 then [lo v % 4294967296] else if t = 126 then [lo v] else if t = 123 then [lo v, hi v] else []
/-- Put, from a place on -/
def putR : List Int → List (List Int) → List Int → List Int × Int
  | t :: ts, v :: vs, acc => if need t = 0 then ([], 1) else putR ts vs (acc ++ put1 t v)
  | _, _, acc => (acc, 0)
def putS (ts : List Int) (vs : List (List Int)) : List Int × Int := if ts.length = vs.length then putR ts vs [] else ([], 1)
theorem putR_ok {t : Int} (h : need t ≠ 0) (ts : List Int) (v : List Int) (vs : List (List Int)) (o : List Int) : putR (t :: ts) (v :: vs) o = putR ts vs (o ++ put1 t v) := by rw [putR, if_neg h]
theorem putR_bad {t : Int} (h : need t = 0) (ts : List Int) (v : List Int) (vs : List (List Int)) (o : List Int) : putR (t :: ts) (v :: vs) o = ([], 1) := by rw [putR, if_pos h]
def okTs (ts : List Int) : Bool := ts.all fun t => decide (need t ≠ 0)
/-- one value of halves -/
def take1 (t : Int) (hs : List Int) : List Int := if t = 127 then join (hs.getD 0 0 % 4294967296) 0 else if t = 126 then join (hs.getD 0 0) 0 else join (hs.getD 0 0) (hs.getD 1 0)
/-- Take, from a place on -/
def takeR : List Int → List Int → List (List Int) → List (List Int) × Int
  | [], hs, acc => if hs.length = 0 then (acc, 0) else ([], 1)
  | t :: ts, hs, acc => if need t = 0 ∨ hs.length < need t then ([], 1) else takeR ts (hs.drop (need t)) (acc ++ [take1 t hs])
theorem takeR_ok {t : Int} {hs : List Int} (h : ¬(need t = 0 ∨ hs.length < need t)) (ts : List Int) (acc : List (List Int)) : takeR (t :: ts) hs acc = takeR ts (hs.drop (need t)) (acc ++ [take1 t hs]) := by rw [takeR, if_neg h]
theorem takeR_bad {t : Int} {hs : List Int} (h : need t = 0 ∨ hs.length < need t) (ts : List Int) (acc : List (List Int)) : takeR (t :: ts) hs acc = ([], 1) := by rw [takeR, if_pos h]
def widthL : List Int → Nat
  | [] => 0
  | t :: ts => need t + widthL ts
/-- the halves' values -/
def takeL : List Int → List Int → List (List Int)
  | [], _ => []
  | t :: ts, hs => take1 t hs :: takeL ts (hs.drop (need t))
theorem takeR_eq (ts hs : List Int) (acc : List (List Int)) : takeR ts hs acc = if okTs ts = true ∧ widthL ts = hs.length then (acc ++ takeL ts hs, 0) else ([], 1) := by
  induction ts generalizing hs acc with
  | nil =>
    simp only [takeR, okTs, widthL, takeL, List.all_nil, List.append_nil, true_and]
    by_cases h : hs.length = 0
    · rw [if_pos h, if_pos h.symm]
    · rw [if_neg h, if_neg (fun e => h e.symm)]
  | cons t ts ih =>
    by_cases h : need t = 0 ∨ hs.length < need t
    · rw [takeR_bad h, if_neg]
      simp only [okTs, List.all_cons, Bool.and_eq_true, decide_eq_true_eq, widthL]
      rintro ⟨⟨h1, _⟩, h2⟩
      rcases h with h | h
      · exact h1 h
      · omega
    · rw [takeR_ok h, ih]
      have e1 : (okTs ts = true ∧ widthL ts = (hs.drop (need t)).length) ↔ (okTs (t :: ts) = true ∧ widthL (t :: ts) = hs.length) := by
        simp only [okTs, List.all_cons, Bool.and_eq_true, decide_eq_true_eq, widthL, List.length_drop]
        constructor
        · rintro ⟨h1, h2⟩; exact ⟨⟨fun e => h (.inl e), h1⟩, by omega⟩
        · rintro ⟨⟨_, h1⟩, h2⟩; exact ⟨h1, by omega⟩
      by_cases h3 : okTs ts = true ∧ widthL ts = (hs.drop (need t)).length
      · rw [if_pos h3, if_pos (e1.1 h3), takeL, List.append_assoc]; rfl
      · rw [if_neg h3, if_neg (fun e => h3 (e1.2 e))]
theorem putR_eq (ts : List Int) (vs : List (List Int)) (o : List Int) (hl : ts.length = vs.length) : putR ts vs o = if okTs ts = true then (o ++ (putR ts vs []).1, 0) else ([], 1) := by
  induction ts generalizing vs o with
  | nil => simp [putR, okTs]
  | cons t ts ih =>
    cases vs with
    | nil => simp at hl
    | cons v vs =>
      have hl : ts.length = vs.length := by simpa using hl
      by_cases h : need t = 0
      · rw [putR_bad h, if_neg (by simp [okTs, h])]
      · rw [putR_ok h, putR_ok h, ih _ _ hl, ih vs ([] ++ put1 t v) hl]
        have e : okTs (t :: ts) = okTs ts := by simp [okTs, h]
        rw [e]
        by_cases h2 : okTs ts = true
        · simp [h2]
        · simp [h2]
end Go.Proofs.Ytbnkjbdbcckcmaa
