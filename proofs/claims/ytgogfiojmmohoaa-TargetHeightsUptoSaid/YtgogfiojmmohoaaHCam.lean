/- Which cells are come to. -/
import Derived.Test.YtgogfiojmmohoaaV5
import Derived.Test.YtgogfiojmmohoaaHRun
namespace Go.Proofs.Ytgogfiojmmohoaa
set_option linter.unusedSimpArgs false
set_option linter.unusedVariables false
open Go Go.Abs

/-- a list of bools -/
def bls (n : Nat) (g : Nat → Bool) : List V := (List.range n).map fun i => .bool (g i)
def mark (g : Nat → Bool) (k : Nat) : Nat → Bool := fun j => g j || j == k
theorem bls_len (n : Nat) (g : Nat → Bool) : (bls n g).length = n := by simp [bls]
theorem bls_set {n k : Nat} {g : Nat → Bool} (h : k < n) : List.take k (bls n g) ++ [V.bool true] ++ List.drop (k + 1) (bls n g) = bls n (mark g k) := by
  refine List.ext_getElem (by simp [bls]; omega) fun i h1 h2 => ?_
  simp only [bls_len] at h2
  by_cases h3 : i < k
  · rw [List.getElem_append_left (by simp [bls]; omega), List.getElem_append_left (by simp [bls]; omega)]
    simp only [bls, List.getElem_take, List.getElem_map, List.getElem_range, mark]
    rw [show (i == k) = false from beq_eq_false_iff_ne.2 (by omega), Bool.or_false]
  · by_cases h4 : i = k
    · subst h4
      rw [List.getElem_append_left (by simp [bls]; omega), List.getElem_append_right (by simp [bls]; omega)]
      simp [bls, mark]
    · rw [List.getElem_append_right (by simp [bls]; omega)]
      simp only [bls, List.getElem_drop, List.getElem_map, List.getElem_range, mark, List.length_append, List.length_take, List.length_map, List.length_range, List.length_cons, List.length_nil]
      rw [show k + 1 + (i - (min k n + (0 + 1))) = i from by omega, show (i == k) = false from beq_eq_false_iff_ne.2 (by omega), Bool.or_false]
theorem bls_set2 {n k : Nat} {g : Nat → Bool} (h : k < n) : List.take k (bls n g) ++ V.bool true :: List.drop (k + 1) (bls n g) = bls n (mark g k) := by
  rw [← bls_set h, List.append_assoc]; rfl
theorem bls_set0 {n : Nat} {g : Nat → Bool} (h : 0 < n) : V.bool true :: List.drop 1 (bls n g) = bls n (mark g 0) := by
  rw [← bls_set h]; rfl
theorem bls_ld {n k : Nat} {g : Nat → Bool} (h : k < n) : (List.drop k (bls n g)).getD 0 .any = .bool (g k) := by
  simp [bls, List.getD, h]
theorem bls_dl {n k : Nat} {g : Nat → Bool} (h : k < n) : 0 < (List.drop k (bls n g)).length := by
  rw [List.length_drop, bls_len]; omega
theorem rowB (n : Nat) : mkRow (zcells (Value.bool false)) n = bls n (fun _ => false) := by
  show mkRow [V.bool false] n = _
  unfold mkRow bls
  refine List.ext_getElem (by simp) fun i h1 h2 => ?_
  simp [Nat.mod_one]
def markR (g : Nat → Bool) (i : Nat) : Nat → (Nat → Bool)
  | 0 => g
  | q + 1 => mark (markR g i q) (i + 1 + q)
theorem markR_iff (g : Nat → Bool) (i q j : Nat) : markR g i q j = true ↔ g j = true ∨ (i + 1 ≤ j ∧ j < i + 1 + q) := by
  induction q with
  | zero => simp only [markR]; constructor
            · exact .inl
            · rintro (h | h)
              · exact h
              · omega
  | succ q ih =>
    simp only [markR, mark, Bool.or_eq_true, ih, beq_iff_eq]
    constructor
    · rintro ((h | h) | h)
      · exact .inl h
      · exact .inr (by omega)
      · exact .inr (by omega)
    · rintro (h | h)
      · exact .inl (.inl h)
      · by_cases e : j = i + 1 + q
        · exact .inr e
        · exact .inl (.inr (by omega))
def cntS (op a : Int) : Nat := if op = 0 ∨ op = 15 ∨ op = 12 then 0 else if op = 14 then (a + 1).toNat else 1
def jmpS (op a : Int) (g : Nat → Bool) : Nat → Bool := if op = 12 ∨ op = 13 then mark g a.toNat else g
def camS (cs : List Cl) (hs : List Int) : Nat → (Nat → Bool)
  | 0 => mark (fun _ => false) 0
  | i + 1 => if hs.getD i 0 < 0 then camS cs hs i else markR (jmpS (cs.getD i cl0).1 (cs.getD i cl0).2.1 (camS cs hs i)) i (cntS (cs.getD i cl0).1 (cs.getD i cl0).2.1)
theorem next_iff (op a n : Int) (i j : Nat) (ha : (op = 12 ∨ op = 13) → 0 ≤ a) (g : Nat → Bool) : markR (jmpS op a g) i (cntS op a) j = true ↔ g j = true ∨ (j : Int) ∈ nextS (op, a, n) i := by
  rw [markR_iff]
  unfold jmpS cntS nextS
  simp only
  by_cases h1 : op = 0 ∨ op = 15
  · rw [if_neg (by omega), if_pos (by omega), if_pos h1]; simp; omega
  rw [if_neg h1]
  by_cases h2 : op = 12
  · have := ha (.inl h2)
    rw [if_pos (.inl h2), if_pos (by omega), if_pos h2]; simp only [mark, Bool.or_eq_true, beq_iff_eq, List.mem_singleton]
    constructor
    · rintro ((h | h) | h)
      · exact .inl h
      · exact .inr (by omega)
      · omega
    · rintro (h | h)
      · exact .inl (.inl h)
      · exact .inl (.inr (by omega))
  rw [if_neg h2]
  by_cases h3 : op = 13
  · have := ha (.inr h3)
    rw [if_pos (.inr h3), if_neg (by omega), if_neg (by omega), if_pos h3]; simp only [mark, Bool.or_eq_true, beq_iff_eq, List.mem_cons, List.not_mem_nil, or_false]
    constructor
    · rintro ((h | h) | h)
      · exact .inl h
      · exact .inr (by omega)
      · exact .inr (by omega)
    · rintro (h | h | h)
      · exact .inl (.inl h)
      · exact .inl (.inr (by omega))
      · exact .inr (by omega)
  rw [if_neg h3, if_neg (by omega), if_neg (by omega)]
  by_cases h4 : op = 14
  · rw [if_pos h4, if_pos h4]
    simp only [List.mem_map, List.mem_range]
    constructor
    · rintro (h | h)
      · exact .inl h
      · exact .inr ⟨j - (i + 1), by omega, by omega⟩
    · rintro (h | ⟨k, h5, h6⟩)
      · exact .inl h
      · exact .inr (by omega)
  · rw [if_neg h4, if_neg h4]; simp only [List.mem_singleton]
    constructor
    · rintro (h | h)
      · exact .inl h
      · exact .inr (by omega)
    · rintro (h | h)
      · exact .inl h
      · exact .inr (by omega)
theorem cam_iff {cs : List Cl} {hs : List Int} (ha : ∀ i, i < cs.length → ((cs.getD i cl0).1 = 12 ∨ (cs.getD i cl0).1 = 13) → 0 ≤ (cs.getD i cl0).2.1) (m : Nat) (hm : m ≤ cs.length) (j : Nat) :
    camS cs hs m j = true ↔ j = 0 ∨ ∃ i, i < m ∧ 0 ≤ hs.getD i 0 ∧ (j : Int) ∈ nAt cs i := by
  induction m with
  | zero => simp [camS, mark]
  | succ m ih =>
    have ih := ih (by omega)
    rw [camS]
    by_cases h : hs.getD m 0 < 0
    · rw [if_pos h, ih]
      constructor
      · rintro (h1 | ⟨i, h1, h2⟩)
        · exact .inl h1
        · exact .inr ⟨i, by omega, h2⟩
      · rintro (h1 | ⟨i, h1, h2⟩)
        · exact .inl h1
        · by_cases e : i = m
          · subst e; omega
          · exact .inr ⟨i, by omega, h2⟩
    · rw [if_neg h]
      have hn := next_iff (cs.getD m cl0).1 (cs.getD m cl0).2.1 (cs.getD m cl0).2.2 m j (ha m (by omega)) (camS cs hs m)
      rw [hn, ih]
      constructor
      · rintro ((h1 | ⟨i, h1, h2⟩) | h1)
        · exact .inl h1
        · exact .inr ⟨i, by omega, h2⟩
        · exact .inr ⟨m, by omega, by omega, h1⟩
      · rintro (h1 | ⟨i, h1, h2⟩)
        · exact .inl (.inl h1)
        · by_cases e : i = m
          · subst e; exact .inr h2.2
          · exact .inl (.inr ⟨i, by omega, h2⟩)
theorem cam_all {p : Pg} {f : Nat} {cs : List Cl} {hs : List Int} (ha : ∀ i, i < cs.length → ((cs.getD i cl0).1 = 12 ∨ (cs.getD i cl0).1 = 13) → 0 ≤ (cs.getD i cl0).2.1) (hG : ∀ i, i < cs.length → 0 ≤ (eAt p f cs i).2) (h : RI p f cs hs []) (j : Nat) (hj : j < cs.length) : camS cs hs cs.length j = decide (hs.getD j 0 ≥ 0) := by
  rw [Bool.eq_iff_iff, cam_iff ha _ (Nat.le_refl _), decide_eq_true_eq]
  constructor
  · rintro (h1 | ⟨i, h1, h2, h3⟩)
    · subst h1; rw [h.z]; decide
    · rcases h.done i h1 h2 with h4 | ⟨h4, h5⟩
      · cases h4
      · obtain ⟨c1, c2⟩ := h5 _ h3
        rw [Int.toNat_natCast] at c2
        have := hG i h1
        omega
  · intro h1
    exact h.came j hj h1
end Go.Proofs.Ytgogfiojmmohoaa
