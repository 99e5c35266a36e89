/- Heights: what the walk needs, without a program. -/
import Derived.Test.YtgogfiojmmohoaaV5
import Derived.Test.YtgogfiojmmohoaaTPre
namespace Go.Proofs.Ytgogfiojmmohoaa
set_option linter.unusedSimpArgs false
set_option linter.unusedVariables false
open Go Go.Abs

def cnt (l : List Int) : Nat := (l.filter fun x => x == -1).length
theorem cnt_append (a b : List Int) : cnt (a ++ b) = cnt a + cnt b := by simp [cnt, List.filter_append]
theorem cnt_le (l : List Int) : cnt l ≤ l.length := List.length_filter_le _ _
theorem cnt_set {l : List Int} {k : Nat} (hk : k < l.length) (h : l.getD k 0 = -1) {x : Int} (hx : x ≠ -1) : cnt (setI l k x) + 1 = cnt l := by
  have e : l = l.take k ++ [l.getD k 0] ++ l.drop (k + 1) := by
    rw [show l.getD k 0 = l[k] from by simp [List.getD, hk], ← List.take_succ_eq_append_getElem hk, List.take_append_drop]
  have e2 : cnt l = cnt (l.take k ++ [l.getD k 0] ++ l.drop (k + 1)) := congrArg cnt e
  rw [e2, setI, cnt_append, cnt_append, cnt_append, cnt_append, h]
  have h1 : cnt [(-1 : Int)] = 1 := rfl
  have h2 : cnt [x] = 0 := by simp [cnt, hx]
  rw [h1, h2]; omega
theorem gD {l : List Int} {k : Nat} (h : k < l.length) : l.getD k 0 = l[k] := by simp [List.getD, h]
/-- a list that is filled, cell by cell -/
def fil (n : Nat) : Nat → List Int
  | 0 => List.replicate n 0
  | k + 1 => setI (fil n k) k (-1)
theorem fil_len (n k : Nat) (hk : k ≤ n) : (fil n k).length = n := by
  induction k with
  | zero => simp [fil]
  | succ k ih => rw [fil, setI_len _ (by rw [ih (by omega)]; omega), ih (by omega)]
theorem fil_getD (n k : Nat) (hk : k ≤ n) (j : Nat) (hj : j < k) : (fil n k).getD j 0 = -1 := by
  induction k with
  | zero => omega
  | succ k ih =>
    rw [fil, setI_getD _ (by rw [fil_len n k (by omega)]; omega)]
    split
    · rfl
    · exact ih (by omega) (by omega)
theorem fil_all (n : Nat) : fil n n = List.replicate n (-1) := by
  refine List.ext_getElem (by rw [fil_len n n (Nat.le_refl _), List.length_replicate]) fun i h1 h2 => ?_
  rw [fil_len n n (Nat.le_refl _)] at h1
  have := fil_getD n n (Nat.le_refl _) i h1
  rw [List.getElem_replicate]
  rwa [gD (by rw [fil_len n n (Nat.le_refl _)]; exact h1)] at this
/-- what holds at the top of the work -/
structure HI (n : Nat) (hs W : List Int) (m : Nat) : Prop where
  len : hs.length = n
  mle : m ≤ W.length
  sm : cnt hs + m ≤ n
  wk : ∀ x, x < m → 0 ≤ W.getD x 0 ∧ W.getD x 0 < n ∧ 0 ≤ hs.getD (W.getD x 0).toNat 0
  hb : ∀ x, x < n → -1 ≤ hs.getD x 0 ∧ hs.getD x 0 ≤ 3000000 * ((n : Int) - cnt hs)
theorem HI.set {n m : Nat} {hs W : List Int} (h : HI n hs W m) {u : Nat} (hu : u < n) (h1 : hs.getD u 0 = -1) {x : Int} (hx : 0 ≤ x) (hx2 : x ≤ 3000000 * ((n : Int) - cnt hs + 1)) : HI n (setI hs u x) (W.take m ++ [(u : Int)]) (m + 1) := by
  have hl := h.len
  have hul : u < hs.length := by omega
  have hc := cnt_set hul h1 (x := x) (by omega)
  have hm := h.mle
  have hg : ∀ y, y < m + 1 → (W.take m ++ [(u : Int)]).getD y 0 = if y < m then W.getD y 0 else (u : Int) := fun y hy => by
    simp only [List.getD_eq_getElem?_getD]
    split
    · rename_i e
      rw [List.getElem?_append_left (by rw [List.length_take]; omega), List.getElem?_take, if_pos e]
    · obtain rfl : y = m := by omega
      rw [List.getElem?_append_right (by rw [List.length_take]; omega), List.length_take, show y - min y W.length = 0 from by omega]; rfl
  have hsm := h.sm
  refine ⟨by rw [setI_len _ hul]; exact hl, by simp; omega, by omega, fun y hy => ?_, fun y hy => ?_⟩
  · rw [hg y hy, setI_getD _ hul]
    split
    · rename_i e
      obtain ⟨a, b, c⟩ := h.wk y e
      refine ⟨a, b, ?_⟩
      split
      · exact hx
      · exact c
    · refine ⟨by omega, by omega, ?_⟩
      rw [if_pos (by omega)]; exact hx
  · rw [setI_getD _ hul]
    have := h.hb y hy
    split
    · constructor
      · omega
      · have : ((cnt (setI hs u x) : Nat) : Int) = (cnt hs : Int) - 1 := by omega
        rw [this]
        have e : (3000000 : Int) * ((n : Int) - ((cnt hs : Int) - 1)) = 3000000 * ((n : Int) - cnt hs + 1) := by congr 1; omega
        rw [e]; exact hx2
    · constructor
      · exact this.1
      · refine Int.le_trans this.2 (Int.mul_le_mul_of_nonneg_left (by omega) (by decide))
theorem HI.pop {n m : Nat} {hs W : List Int} (h : HI n hs W (m + 1)) : HI n hs W m :=
  ⟨h.len, by have := h.mle; omega, by have := h.sm; omega, fun x hx => h.wk x (by omega), h.hb⟩
theorem HI.start (n : Nat) (hn : 0 < n) : HI n (hs0 n) [0] 1 ∧ cnt (hs0 n) + 1 = n := by
  have hl : (List.replicate n (-1 : Int)).length = n := List.length_replicate
  have hg : ∀ x, x < n → (List.replicate n (-1 : Int)).getD x 0 = -1 := fun x hx => by
    rw [gD (by rw [hl]; exact hx), List.getElem_replicate]
  have hc0 : cnt (List.replicate n (-1 : Int)) = n := by simp [cnt]
  have hc := cnt_set (l := List.replicate n (-1)) (k := 0) (by omega) (hg 0 hn) (x := 0) (by decide)
  rw [hc0] at hc
  refine ⟨⟨by rw [hs0, setI_len _ (by omega)]; exact hl, by simp, by unfold hs0; omega, fun x hx => ?_, fun x hx => ?_⟩, hc⟩
  · obtain rfl : x = 0 := by omega
    refine ⟨Int.le_refl _, by simp; omega, ?_⟩
    rw [hs0, setI_getD _ (by omega)]; simp
  · rw [hs0, setI_getD _ (by omega)]
    have : ((cnt (setI (List.replicate n (-1)) 0 0) : Nat) : Int) = (n : Int) - 1 := by omega
    rw [this]
    split
    · omega
    · rw [hg x hx]; omega
theorem run_nil (p : Pg) (f : Nat) (cs : List Cl) (q : Nat) (hs : List Int) : runS p f cs (q + 1) hs [] = some hs := by simp [runS]
theorem run_step (p : Pg) (f : Nat) (cs : List Cl) (q : Nat) (hs W : List Int) (m t : Nat) (hm : m < W.length) (ht : W.getD m 0 = t) : runS p f cs (q + 1) hs (W.take (m + 1)) =
    if (effS p f (cs.getD t cl0)).1 > hs.getD t 0 then none else
    match put1 cs.length (hs.getD t 0 - (effS p f (cs.getD t cl0)).1 + (effS p f (cs.getD t cl0)).2) (nextS (cs.getD t cl0) t) hs (W.take m) with
    | none => none
    | some x => runS p f cs q x.1 x.2 := by
  have hlen : (W.take (m + 1)).length = m + 1 := by rw [List.length_take]; omega
  have hne : W.take (m + 1) ≠ [] := fun e => by rw [e] at hlen; simp at hlen
  have hg : (W.take (m + 1)).getD m 0 = t := by
    rw [← ht]; simp only [List.getD_eq_getElem?_getD]
    rw [List.getElem?_take, if_pos (by omega)]
  rw [runS]
  simp only [if_neg hne, hlen, Nat.add_sub_cancel, hg, Int.toNat_natCast, List.take_take]
  rw [show min m (m + 1) = m from by omega]
  rfl
theorem put_step {n : Nat} {h : Int} {T : List Int} {k u : Nat} {hs wk : List Int} (hk : k < T.length) (hu : T.getD k 0 = u) : put1 n h (T.drop k) hs wk =
    if (u : Int) ≥ n then none else if hs.getD u 0 = -1 then put1 n h (T.drop (k + 1)) (setI hs u h) (wk ++ [(u : Int)]) else if hs.getD u 0 ≠ h then none else put1 n h (T.drop (k + 1)) hs wk := by
  rw [List.drop_eq_getElem_cons hk, show T[k] = (u : Int) from by rw [← hu]; simp [List.getD, hk], put1, Int.toNat_natCast]
/-- a program that is checked -/
theorem err_chk {p : Pg} (h : errS p = 0) : chkS p = true := by
  unfold errS at h; split at h
  · assumption
  · cases h
theorem chk_fun {p : Pg} (h : errS p = 0) {f : Fn} (hf : f ∈ p.fs) : hedS p f = true ∧ celS p.fs.length p.sg.length f = true := by
  have := err_chk h
  unfold chkS at this
  rw [Bool.and_eq_true] at this
  have := List.all_eq_true.1 this.2 f hf
  unfold funS at this
  rwa [Bool.and_eq_true] at this
theorem hed_io {p : Pg} {f : Fn} (h : hedS p f = true) (hp : okP p) : 0 ≤ f.i ∧ f.i ≤ 2000000 ∧ 0 ≤ f.o ∧ f.o ≤ 2000000 ∧ 0 ≤ f.l ∧ f.l ≤ 4096 ∧ 0 ≤ f.s ∧ f.s < p.sg.length := by
  unfold hedS at h
  rw [Bool.and_eq_true, decide_eq_true_eq, decide_eq_true_eq] at h
  obtain ⟨⟨a1, a2, a3, a4, a5, a6⟩, b1, b2⟩ := h
  have hm := hp.2.2.1 _ (getD_mem sg0 (show f.s.toNat < p.sg.length by omega))
  unfold okS at hm
  rw [b1, b2]; omega
theorem cel_may {nF nS : Nat} {f : Fn} (h : celS nF nS f = true) {k : Nat} (hk : k < f.cs.length) : mayS nF nS f.cs.length f.i f.l (k : Nat) (f.cs.getD k cl0) = true := List.all_eq_true.1 h k (List.mem_range.2 hk)
theorem may_jump {nF nS nC : Nat} {i l t op a n : Int} (h : mayS nF nS nC i l t (op, a, n) = true) : ((op = 12 ∨ op = 13) → 0 ≤ a ∧ a < nC) ∧ (op = 14 → 0 ≤ a ∧ a < nC - t - 1) := by
  unfold mayS at h
  simp only at h
  by_cases h1 : op = 12 ∨ op = 13
  · rw [if_pos h1, decide_eq_true_eq] at h
    exact ⟨fun _ => h, fun e => by omega⟩
  · rw [if_neg h1] at h
    refine ⟨fun e => absurd e h1, fun e => ?_⟩
    rw [if_pos e, decide_eq_true_eq] at h
    exact h
theorem eff_bound {p : Pg} (hp : okP p) (he : errS p = 0) {f : Nat} (hf : f < p.fs.length) (op a n : Int) (hn : 0 ≤ n) : 0 ≤ (effS p f (op, a, n)).1 ∧ (effS p f (op, a, n)).1 ≤ 3000000 ∧ 0 ≤ (effS p f (op, a, n)).2 ∧ (effS p f (op, a, n)).2 ≤ 2000000 := by
  have hfx := fx_bound op
  have hio : ∀ q, q < p.fs.length → 0 ≤ (p.fs.getD q fn0).i ∧ (p.fs.getD q fn0).i ≤ 2000000 ∧ 0 ≤ (p.fs.getD q fn0).o ∧ (p.fs.getD q fn0).o ≤ 2000000 := fun q hq => by
    have := hed_io (chk_fun he (getD_mem fn0 hq)).1 hp
    omega
  have hsg : ∀ q, q < p.sg.length → (p.sg.getD q sg0).1.length ≤ 2000000 ∧ (p.sg.getD q sg0).2.length ≤ 2000000 := fun q hq => hp.2.2.1 _ (getD_mem sg0 hq)
  unfold effS
  simp only
  split
  · have := hio f hf; simp only; omega
  split
  · have := hio a.toNat (by omega); simp only; omega
  split
  · have := hsg a.toNat (by omega); simp only; omega
  split
  · simp only; omega
  · simp only; omega
theorem next_bound {t nC : Nat} (ht : t < nC) (hn : nC ≤ 2000000) {op a n : Int} (h1 : (op = 12 ∨ op = 13) → 0 ≤ a ∧ a < nC) (h2 : op = 14 → 0 ≤ a ∧ a < nC - t - 1) : (nextS (op, a, n) t).length ≤ 2000001 ∧ ∀ k, k < (nextS (op, a, n) t).length → ∃ u : Nat, (nextS (op, a, n) t).getD k 0 = u ∧ u ≤ nC := by
  unfold nextS
  simp only
  split
  · exact ⟨by simp, fun k hk => by simp at hk⟩
  split
  · obtain ⟨ha, hb⟩ := h1 (by omega)
    refine ⟨by simp, fun k hk => ⟨a.toNat, ?_, by omega⟩⟩
    obtain rfl : k = 0 := by simp at hk; omega
    simp; omega
  split
  · obtain ⟨ha, hb⟩ := h1 (by omega)
    refine ⟨by simp, fun k hk => ?_⟩
    rcases k with _ | k
    · exact ⟨a.toNat, by simp; omega, by omega⟩
    · obtain rfl : k = 0 := by simp at hk; omega
      exact ⟨t + 1, by simp, by omega⟩
  split
  · obtain ⟨ha, hb⟩ := h2 (by omega)
    refine ⟨by simp; omega, fun k hk => ⟨t + 1 + k, ?_, ?_⟩⟩
    · simp only [List.length_map, List.length_range] at hk
      rw [gD (by simpa using hk)]
      simp
    · simp only [List.length_map, List.length_range] at hk
      omega
  · refine ⟨by simp, fun k hk => ⟨t + 1, ?_, by omega⟩⟩
    obtain rfl : k = 0 := by simp at hk; omega
    simp
end Go.Proofs.Ytgogfiojmmohoaa
