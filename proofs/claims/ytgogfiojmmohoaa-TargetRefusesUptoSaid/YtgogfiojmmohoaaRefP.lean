/- Programs with one thing turned: the plain law of TargetRefuses. -/
import Derived.Test.YtgogfiojmmohoaaV5
import Derived.Test.YtgogfiojmmohoaaCheck
namespace Go.Proofs.Ytgogfiojmmohoaa
set_option linter.unusedSimpArgs false
set_option linter.unusedVariables false
open Go Go.Abs

/-- the cells that are put in -/
def trn (nF nS nC : Nat) (il : Int) : Nat → Cl
  | 0 => (65, 0, 0)
  | 1 => (64878, 0, 0)
  | 2 => (16, nF, 0)
  | 3 => (17, nS, 0)
  | 4 => (32, il, 0)
  | _ => (12, nC, 0)
theorem sc65 : scS 65 = false := by decide
theorem sc6e : scS 64878 = false := by decide
theorem may_trn (nF nS nC : Nat) (i l at_ : Int) {k : Nat} (hk : k < 6) : mayS nF nS nC i l at_ (trn nF nS nC (i + l) k) = false := by
  have : k = 0 ∨ k = 1 ∨ k = 2 ∨ k = 3 ∨ k = 4 ∨ k = 5 := by omega
  rcases this with rfl | rfl | rfl | rfl | rfl | rfl <;> simp [mayS, trn, sc65, sc6e]
theorem getD_set {α : Type} {l : List α} {j : Nat} (h : j < l.length) (y d : α) : (l.set j y).getD j d = y := by
  simp [List.getD_eq_getElem?_getD, h]
theorem err_set {sg : List Sg} {fs : List Fn} {j : Nat} (hj : j < fs.length) {g : Fn} (h : funS ⟨sg, fs.set j g⟩ g = false) : errS ⟨sg, fs.set j g⟩ = 1 :=
  funs_no (p := ⟨sg, fs.set j g⟩) (k := j) (by simpa using hj) (by simp only [getD_set hj]; exact h)
theorem okP_set {sg : List Sg} {fs : List Fn} (hp : okP ⟨sg, fs⟩) (j : Nat) {g : Fn} (hg : okF g) : okP ⟨sg, fs.set j g⟩ :=
  ⟨hp.1, by simp only [List.length_set]; exact hp.2.1, hp.2.2.1, fun f hf => by
    rcases List.mem_or_eq_of_mem_set hf with h | rfl
    · exact hp.2.2.2 f h
    · exact hg⟩
theorem okF_cell {g : Fn} (hg : okF g) (a : Nat) {c : Cl} (hc : okC c) : okF { g with cs := g.cs.set a c } :=
  ⟨by simp only [List.length_set]; exact hg.1, hg.2.1, hg.2.2.1, hg.2.2.2.1, hg.2.2.2.2.1, hg.2.2.2.2.2.1, hg.2.2.2.2.2.2.1, fun x hx => by
    rcases List.mem_or_eq_of_mem_set hx with h | rfl
    · exact hg.2.2.2.2.2.2.2 x h
    · exact hc⟩
theorem okC_trn (nF nS nC : Nat) (il : Int) (hF : nF ≤ 2000000) (hS : nS ≤ 2000000) (hC : nC ≤ 2000000) (hi : 0 ≤ il ∧ il ≤ 3000000) (k : Nat) : okC (trn nF nS nC il k) := by
  unfold trn
  split <;> refine ⟨?_, ?_, ?_, ?_⟩ <;> (first | (unfold okI; constructor <;> (simp only; omega)) | (simp only; omega))
theorem ref_cell {sg : List Sg} {fs : List Fn} {j : Nat} (hj : j < fs.length) (g : Fn) {a k : Nat} (ha : a < g.cs.length) (hk : k < 6) : errS ⟨sg, fs.set j { g with cs := g.cs.set a (trn fs.length sg.length g.cs.length (g.i + g.l) k) }⟩ = 1 := by
  refine err_set hj ?_
  unfold funS
  rw [cel_no (k := a) (by simpa using ha) (by simp only [List.length_set, getD_set ha]; exact may_trn _ _ _ _ _ _ hk)]
  simp
theorem chk_fn {sg : List Sg} {fs : List Fn} (he : errS ⟨sg, fs⟩ = 0) {j : Nat} (hj : j < fs.length) : (-1 ≤ (fs.getD j fn0).h ∧ 0 ≤ (fs.getD j fn0).s ∧ (fs.getD j fn0).s < sg.length ∧ 0 ≤ (fs.getD j fn0).l ∧ (fs.getD j fn0).l ≤ 4096 ∧ ((fs.getD j fn0).h = -1 ↔ 0 < (fs.getD j fn0).cs.length)) ∧
    ((fs.getD j fn0).i = (sg.getD (fs.getD j fn0).s.toNat sg0).1.length ∧ (fs.getD j fn0).o = (sg.getD (fs.getD j fn0).s.toNat sg0).2.length) := by
  have hc : chkS ⟨sg, fs⟩ = true := by
    cases h : chkS ⟨sg, fs⟩ with
    | true => rfl
    | false => unfold errS at he; rw [h] at he; cases he
  unfold chkS at hc
  simp only [Bool.and_eq_true, List.all_eq_true] at hc
  have h1 := hc.2 _ (getD_mem fn0 hj)
  unfold funS hedS at h1
  simp only [Bool.and_eq_true, decide_eq_true_eq] at h1
  exact h1.1
theorem ref_in {sg : List Sg} {fs : List Fn} {j : Nat} (hj : j < fs.length) (g : Fn) (h : g.i = (sg.getD g.s.toNat sg0).1.length) : errS ⟨sg, fs.set j { g with i := g.i + 1 }⟩ = 1 :=
  err_set hj (hed_no2 _ _ (by simp only; omega))
theorem ref_sig {sg : List Sg} {fs : List Fn} {j : Nat} (hj : j < fs.length) (g : Fn) : errS ⟨sg, fs.set j { g with s := sg.length }⟩ = 1 :=
  err_set hj (hed_no _ _ (by simp only; omega))
theorem ref_loc {sg : List Sg} {fs : List Fn} {j : Nat} (hj : j < fs.length) (g : Fn) : errS ⟨sg, fs.set j { g with l := 4097 }⟩ = 1 :=
  err_set hj (hed_no _ _ (by simp only; omega))
theorem ref_host {sg : List Sg} {fs : List Fn} {j : Nat} (hj : j < fs.length) (g : Fn) : errS ⟨sg, fs.set j { g with h := -2 }⟩ = 1 :=
  err_set hj (hed_no _ _ (by simp only; omega))
theorem ref_turn {sg : List Sg} {fs : List Fn} {j : Nat} (hj : j < fs.length) (g : Fn) (x : Int) (h : ¬(x = -1 ↔ 0 < g.cs.length)) : errS ⟨sg, fs.set j { g with h := x }⟩ = 1 :=
  err_set hj (hed_no _ _ (fun hh => h hh.2.2.2.2.2))
theorem ref_sgs (sg : List Sg) (fs : List Fn) : errS ⟨sg ++ [([123], [])], fs⟩ = 1 :=
  err_sgs (sgs_no (k := sg.length) (by simp) (.inl (by simp [List.getD_eq_getElem?_getD]; decide)))
theorem wrap_rem (f : Int) {n : Nat} (hn : ¬ n = 0) (hl : n ≤ 2000000) : ∃ j : Nat, IntKind.i64.wrap (Int.tmod (IntKind.u64.wrap f) (IntKind.u64.wrap (n : Int))) = (j : Int) ∧ j < n := by
  rw [wrap_unsigned (k := .u64) rfl f, wrap_unsigned (k := .u64) rfl (n : Int)]
  have e1 : (n : Int) % 2 ^ IntKind.u64.bits = n := Int.emod_eq_of_lt (by omega) (by show (n : Int) < 2 ^ 64; omega)
  rw [e1]
  have h0 : 0 ≤ f % 2 ^ IntKind.u64.bits := Int.emod_nonneg _ (by decide)
  rw [Int.tmod_eq_emod_of_nonneg h0]
  have h1 := Int.emod_nonneg (f % 2 ^ IntKind.u64.bits) (show (n : Int) ≠ 0 by omega)
  have h2 := Int.emod_lt_of_pos (f % 2 ^ IntKind.u64.bits) (show (0 : Int) < n by omega)
  refine ⟨((f % 2 ^ IntKind.u64.bits) % (n : Int)).toNat, ?_, by omega⟩
  rw [wrap64_id _ (by omega) (by omega)]; omega
theorem wrap_ne {n : Nat} (hn : ¬ n = 0) (hl : n ≤ 2000000) : IntKind.u64.wrap (n : Int) ≠ 0 := by
  rw [wrap_unsigned (k := .u64) rfl (n : Int), Int.emod_eq_of_lt (by omega) (by show (n : Int) < 2 ^ 64; omega)]; omega
theorem getD_drop0 {l : List V} {n : Nat} {v d : V} {r : List V} (h : l.drop n = v :: r) : l.getD n d = v := by
  have := congrArg (fun x => x[0]?) h
  simp only [List.getElem?_drop, Nat.add_zero, List.getElem?_cons_zero] at this
  rw [List.getD_eq_getElem?_getD, this]; rfl
theorem getD_dropn {l r : List V} {n : Nat} (h : l.drop n = r) (c : Nat) (d : V) : l.getD (n + c) d = r.getD c d := by
  rw [List.getD_eq_getElem?_getD, List.getD_eq_getElem?_getD, ← h, List.getElem?_drop]
theorem sigC_app1 (sg : List Sg) (x : Sg) : sigC (sg ++ [x]) = sigC sg ++ tsig x := by
  induction sg with
  | nil => simp [sigC, rowsC]
  | cons y sg ih =>
    have e : ∀ l, sigC (y :: l) = tsig y ++ sigC l := fun _ => rfl
    rw [List.cons_append, e, e, ih, List.append_assoc]
theorem okP_sgs {sg : List Sg} {fs : List Fn} (hp : okP ⟨sg, fs⟩) (h : sg.length + 1 ≤ 2000000) : okP ⟨sg ++ [([123], [])], fs⟩ :=
  ⟨by simp; omega, hp.2.1, fun s hs => by
    rcases List.mem_append.1 hs with hs | hs
    · exact hp.2.2.1 s hs
    · rw [List.mem_singleton.1 hs]; exact ⟨by simp, by simp⟩, hp.2.2.2⟩
/-! Stores into rows. -/
theorem rows_cut {α : Type} {e : α → List V} {n : Nat} (hn : ∀ x, (e x).length = n) (d : α) {l : List α} {j : Nat} (h : j < l.length) :
    ∃ A B : List V, A.length = j * n ∧ rowsC e l = A ++ (e (l.getD j d) ++ B) ∧ ∀ y, rowsC e (l.set j y) = A ++ (e y ++ B) := by
  have hs : ∀ y, l.set j y = l.take j ++ y :: l.drop (j + 1) := fun y => List.set_eq_take_append_cons_drop.trans (by rw [if_pos h])
  have hl : l = l.take j ++ l.getD j d :: l.drop (j + 1) := by
    rw [← hs, List.getD_eq_getElem?_getD, List.getElem?_eq_getElem h]; simp
  have key : ∀ y, rowsC e (l.take j ++ y :: l.drop (j + 1)) = rowsC e (l.take j) ++ (e y ++ rowsC e (l.drop (j + 1))) := fun y => by
    generalize l.take j = A
    induction A with
    | nil => rfl
    | cons a A ih => rw [List.cons_append, rowsC, ih, rowsC, List.append_assoc]
  refine ⟨rowsC e (l.take j), rowsC e (l.drop (j + 1)), ?_, ?_, fun y => ?_⟩
  · rw [rows_len hn, List.length_take]; congr 1; omega
  · conv => lhs; rw [hl]
    exact key _
  · rw [hs]; exact key y
theorem rows_put {α : Type} {e : α → List V} {n : Nat} (hn : ∀ x, (e x).length = n) (d : α) {l : List α} {j c : Nat} (h : j < l.length) (hc : c < n) (x : V) (y : α) (hy : e y = (e (l.getD j d)).take c ++ [x] ++ (e (l.getD j d)).drop (c + 1)) :
    List.take (j * n + c) (rowsC e l) ++ [x] ++ List.drop (j * n + c + 1) (rowsC e l) = rowsC e (l.set j y) := by
  obtain ⟨A, B, hA, h1, h2⟩ := rows_cut hn d h
  rw [h2, h1, hy, List.take_append, List.drop_append, hA, List.take_of_length_le (by omega), List.drop_of_length_le (by omega), show j * n + c - j * n = c by omega, show j * n + c + 1 - j * n = c + 1 by omega, List.take_append, List.drop_append, hn, show c - n = 0 by omega, show c + 1 - n = 0 by omega]
  simp
theorem rows_row {α : Type} {e : α → List V} {n : Nat} (hn : ∀ x, (e x).length = n) (d : α) {l : List α} {j : Nat} (h : j < l.length) (y : α) :
    List.take (j * n) (rowsC e l) ++ e y ++ List.drop (j * n + n) (rowsC e l) = rowsC e (l.set j y) := by
  obtain ⟨A, B, hA, h1, h2⟩ := rows_cut hn d h
  rw [h2, h1, List.take_append, List.drop_append, hA, List.take_of_length_le (by omega), List.drop_of_length_le (by omega), Nat.sub_self, show j * n + n - j * n = n by omega, List.drop_append, hn, List.drop_of_length_le (by rw [hn]; exact Nat.le_refl _), Nat.sub_self]
  simp
theorem cel_set {cs : List Cl} {a : Nat} (h : a < cs.length) (c : Cl) : List.take (a * 3) (celC cs) ++ tcel c ++ List.drop (a * 3 + 3) (celC cs) = celC (cs.set a c) := rows_row (e := tcel) (n := 3) (fun _ => rfl) cl0 h c
theorem fun_put {fs : List Fn} {j c : Nat} (h : j < fs.length) (hc : c < 7) (x : V) (y : Fn) (hy : tfun y = (tfun (fs.getD j fn0)).take c ++ [x] ++ (tfun (fs.getD j fn0)).drop (c + 1)) :
    List.take (j * 7 + c) (funC fs) ++ [x] ++ List.drop (j * 7 + c + 1) (funC fs) = funC (fs.set j y) := rows_put (e := tfun) (n := 7) (fun _ => rfl) fn0 h hc x y hy
end Go.Proofs.Ytgogfiojmmohoaa
