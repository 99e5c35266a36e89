/- Values as halves and back, in plain. -/
import Derived.Test.YtbnkjbdbcckcmaaV5
import Derived.Test.YtbnkjbdbcckcmaaVec
import Derived.Test.YtbnkjbdbcckcmaaPlain
namespace Go.Proofs.Ytbnkjbdbcckcmaa
set_option linter.unusedSimpArgs false
set_option linter.unusedVariables false
open Go Go.Abs

def u64s (l : List Int) : Prop := ∀ x ∈ l, 0 ≤ x ∧ x < 2 ^ 64
theorem take1_ok (t : Int) (hs : List Int) : (take1 t hs).length = 16 ∧ bytes (take1 t hs) := by
  unfold take1; split
  · exact ⟨join_len _ _, join_bytes _ _⟩
  · split <;> exact ⟨join_len _ _, join_bytes _ _⟩
theorem vecs_snoc {a : List (List Int)} (h : vecs a) {v : List Int} (hv : v.length = 16 ∧ bytes v) : vecs (a ++ [v]) := by
  intro x hx
  rcases List.mem_append.1 hx with hx | hx
  · exact h x hx
  · rw [List.mem_singleton.1 hx]; exact hv
theorem need_le (t : Int) : need t ≤ 2 := by unfold need; split <;> (try split) <;> omega
theorem widthL_le (ts : List Int) : widthL ts ≤ 2 * ts.length := by
  induction ts with
  | nil => simp [widthL]
  | cons t ts ih => have := need_le t; simp only [widthL, List.length_cons]; omega
theorem widthL_snoc (ts : List Int) (t : Int) : widthL (ts ++ [t]) = widthL ts + need t := by
  induction ts with
  | nil => simp [widthL]
  | cons x ts ih => simp only [List.cons_append, widthL, ih]; omega
theorem okTs_snoc (ts : List Int) (t : Int) : okTs (ts ++ [t]) = (okTs ts && decide (need t ≠ 0)) := by simp [okTs]
theorem okTs_at {ts : List Int} {k : Nat} (hk : k < ts.length) (h : need (ts.getD k 0) = 0) : okTs ts = false := by
  cases e : okTs ts with
  | false => rfl
  | true =>
    have := of_decide_eq_true (List.all_eq_true.1 e _ (getD_mem hk))
    exact absurd h this
theorem takeR_ok2 (ts hs : List Int) (o : List (List Int)) (ho : vecs o) : (takeR ts hs o).1.length ≤ o.length + ts.length ∧ vecs (takeR ts hs o).1 := by
  induction ts generalizing hs o with
  | nil =>
    unfold takeR; split
    · exact ⟨by simp, ho⟩
    · exact ⟨by simp, by intro v hv; cases hv⟩
  | cons t ts ih =>
    by_cases h : need t = 0 ∨ hs.length < need t
    · rw [takeR_bad h]; exact ⟨by simp, by intro v hv; cases hv⟩
    · rw [takeR_ok h]
      have := ih (hs.drop (need t)) (o ++ [take1 t hs]) (vecs_snoc ho (take1_ok t hs))
      refine ⟨?_, this.2⟩
      have := this.1
      simp only [List.length_append, List.length_cons, List.length_nil] at *; omega
theorem join_back {v : List Int} (hl : v.length = 16) (hb : bytes v) : join (lo v) (hi v) = v := by
  unfold join lo hi
  have e1 := toB_le (bytes_take hb 8)
  rw [List.length_take, hl] at e1
  have e2 := toB_le (bytes_drop hb 8)
  rw [List.length_drop, hl] at e2
  rw [show min 8 16 = 8 from rfl] at e1
  rw [show 16 - 8 = 8 from rfl] at e2
  rw [e1, e2, List.take_append_drop]
/-- a value, cut to its type -/
def cut1 (t : Int) (v : List Int) : List Int := if t = 127 then join (lo v % 4294967296) 0 else if t = 126 then join (lo v) 0 else v
def putL : List Int → List (List Int) → List Int
  | t :: ts, v :: vs => put1 t v ++ putL ts vs
  | _, _ => []
def cutL : List Int → List (List Int) → List (List Int)
  | t :: ts, v :: vs => cut1 t v :: cutL ts vs
  | _, _ => []
theorem put1_need {t : Int} (h : need t ≠ 0) (v : List Int) : (put1 t v).length = need t := by
  rcases need_cases t with h1 | h1 | h1 | h1
  · subst h1; rfl
  · subst h1; rfl
  · subst h1; rfl
  · exact absurd h1.1 h
theorem okTs_cons {t : Int} {ts : List Int} (h : okTs (t :: ts) = true) : need t ≠ 0 ∧ okTs ts = true := by
  simp only [okTs, List.all_cons, Bool.and_eq_true, decide_eq_true_eq] at h
  exact h
theorem putR_L (ts : List Int) (vs : List (List Int)) (o : List Int) (hok : okTs ts = true) (hl : ts.length = vs.length) : putR ts vs o = (o ++ putL ts vs, 0) := by
  induction ts generalizing vs o with
  | nil => simp [putR, putL]
  | cons t ts ih =>
    cases vs with
    | nil => simp at hl
    | cons v vs =>
      obtain ⟨h1, h2⟩ := okTs_cons hok
      rw [putR_ok h1, ih _ _ h2 (by simpa using hl), putL, List.append_assoc]
theorem putL_len (ts : List Int) (vs : List (List Int)) (hok : okTs ts = true) (hl : ts.length = vs.length) : (putL ts vs).length = widthL ts := by
  induction ts generalizing vs with
  | nil => simp [putL, widthL]
  | cons t ts ih =>
    cases vs with
    | nil => simp at hl
    | cons v vs =>
      obtain ⟨h1, h2⟩ := okTs_cons hok
      rw [putL, List.length_append, put1_need h1, ih _ h2 (by simpa using hl), widthL]
theorem putL_u64 (ts : List Int) (vs : List (List Int)) (hv : vecs vs) : u64s (putL ts vs) := by
  induction ts generalizing vs with
  | nil => intro x hx; cases hx
  | cons t ts ih =>
    cases vs with
    | nil => intro x hx; cases hx
    | cons v vs =>
      have hv1 := hv v (List.mem_cons_self ..)
      have h1 := lo_bound hv1.2 hv1.1
      have h2 := hi_bound hv1.2 hv1.1
      intro x hx
      rw [putL] at hx
      rcases List.mem_append.1 hx with hx | hx
      · unfold put1 at hx
        split at hx
        · simp at hx; subst hx; simp only [Int.reducePow] at *; omega
        · split at hx
          · simp at hx; subst hx; exact h1
          · split at hx
            · simp at hx; rcases hx with rfl | rfl
              · exact h1
              · exact h2
            · cases hx
      · exact ih vs (fun y hy => hv y (List.mem_cons_of_mem _ hy)) x hx
theorem take_put1 {t : Int} (h : need t ≠ 0) {v : List Int} (hl : v.length = 16) (hb : bytes v) (r : List Int) : take1 t (put1 t v ++ r) = cut1 t v := by
  have hlo := lo_bound hb hl
  rcases need_cases t with h1 | h1 | h1 | h1
  · subst h1
    simp only [take1, put1, cut1, Int.reduceEq, ↓reduceIte, List.cons_append, List.getD_cons_zero]
    rw [show lo v % 4294967296 % 4294967296 = lo v % 4294967296 from by omega]
  · subst h1
    simp only [take1, put1, cut1, Int.reduceEq, ↓reduceIte, List.cons_append, List.getD_cons_zero]
  · subst h1
    simp only [take1, put1, cut1, Int.reduceEq, ↓reduceIte, List.cons_append, List.getD_cons_zero, List.getD_cons_succ]
    exact join_back hl hb
  · exact absurd h1.1 h
theorem takeL_put (ts : List Int) (vs : List (List Int)) (hok : okTs ts = true) (hl : ts.length = vs.length) (hv : vecs vs) : takeL ts (putL ts vs) = cutL ts vs := by
  induction ts generalizing vs with
  | nil => rfl
  | cons t ts ih =>
    cases vs with
    | nil => simp at hl
    | cons v vs =>
      obtain ⟨h1, h2⟩ := okTs_cons hok
      have hv1 := hv v (List.mem_cons_self ..)
      rw [takeL, putL, cutL, take_put1 h1 hv1.1 hv1.2, List.drop_append, put1_need h1, List.drop_of_length_le (by rw [put1_need h1]; exact Nat.le_refl _), List.nil_append, Nat.sub_self, List.drop_zero, ih _ h2 (by simpa using hl) (fun y hy => hv y (List.mem_cons_of_mem _ hy))]
theorem cutL_len (ts : List Int) (vs : List (List Int)) (hl : ts.length = vs.length) : (cutL ts vs).length = vs.length := by
  induction ts generalizing vs with
  | nil => cases vs with
    | nil => rfl
    | cons v vs => simp at hl
  | cons t ts ih =>
    cases vs with
    | nil => simp at hl
    | cons v vs => simp only [cutL, List.length_cons]; rw [ih _ (by simpa using hl)]
theorem cutL_at (ts : List Int) (vs : List (List Int)) (hl : ts.length = vs.length) (k : Nat) (hk : k < vs.length) : (cutL ts vs).getD k [] = cut1 (ts.getD k 0) (vs.getD k []) := by
  induction ts generalizing vs k with
  | nil => simp at hl; omega
  | cons t ts ih =>
    cases vs with
    | nil => simp at hl
    | cons v vs =>
      cases k with
      | zero => simp [cutL]
      | succ k => simp only [cutL, List.getD_cons_succ]; exact ih _ (by simpa using hl) k (by simpa using hk)
theorem cutL_vecs (ts : List Int) (vs : List (List Int)) (hv : vecs vs) : vecs (cutL ts vs) := by
  induction ts generalizing vs with
  | nil => intro v hv; cases hv
  | cons t ts ih =>
    cases vs with
    | nil => intro v hv; cases hv
    | cons v vs =>
      intro x hx
      rw [cutL] at hx
      rcases List.mem_cons.1 hx with rfl | hx
      · unfold cut1; split
        · exact ⟨join_len _ _, join_bytes _ _⟩
        · split
          · exact ⟨join_len _ _, join_bytes _ _⟩
          · exact hv v (List.mem_cons_self ..)
      · exact ih vs (fun y hy => hv y (List.mem_cons_of_mem _ hy)) x hx
theorem take_back (ts : List Int) (vs : List (List Int)) (hok : okTs ts = true) (hl : ts.length = vs.length) (hv : vecs vs) : takeR ts (putL ts vs) [] = (cutL ts vs, 0) := by
  rw [takeR_eq, if_pos ⟨hok, (putL_len ts vs hok hl).symm⟩, takeL_put ts vs hok hl hv, List.nil_append]
theorem take_not (ts hs : List Int) (h : ¬(okTs ts = true ∧ widthL ts = hs.length)) : takeR ts hs [] = ([], 1) := by
  rw [takeR_eq, if_neg h]
theorem put_not (ts : List Int) (vs : List (List Int)) (h : ¬(okTs ts = true ∧ ts.length = vs.length)) : putS ts vs = ([], 1) := by
  unfold putS
  by_cases hl : ts.length = vs.length
  · rw [if_pos hl, putR_eq _ _ _ hl, if_neg (fun e => h ⟨e, hl⟩)]
  · rw [if_neg hl]
theorem put_yes (ts : List Int) (vs : List (List Int)) (hok : okTs ts = true) (hl : ts.length = vs.length) : putS ts vs = (putL ts vs, 0) := by
  unfold putS; rw [if_pos hl, putR_L _ _ _ hok hl, List.nil_append]
theorem of32 {y : Int} (h : 0 ≤ y) : of 32 [y] = join (y % 4294967296) 0 := by
  unfold of
  rw [show [y].take (lanes 32) = [y] from rfl, sets, sets]
  exact set_lo32 h
theorem of64' (y : Int) : of 64 [y] = join y 0 := by
  unfold of
  rw [show [y].take (lanes 64) = [y] from rfl, sets, sets]
  exact set_lo
end Go.Proofs.Ytbnkjbdbcckcmaa
