/- Blocks within one another, in plain. -/
import Derived.Test.YteppkbaeacndiaaGCB
import Derived.Test.YteppkbaeacndiaaGArgs
set_option linter.unusedSimpArgs false
set_option linter.unusedVariables false
namespace Go.Abs
set_option maxRecDepth 20000
open Go Go.RowKit
section
variable {P : Program} {C : Ctx} {st st' : St} {l rest all : List Oper} {o : Oper} {Q : Exit -> St -> Prop} {ops : Array Oper} {b : Bool} {nq ms F : List Nat} {M : List (Nat × Obj1)} {U : List (Nat × Nat)} {i : Nat}
theorem AWL.callA {f : FuncId} {args : Array Operand} {argTypes : Array TypeId} {d : Nat} {vs : List V} {R : V -> List (Nat × List V) -> Prop} (hg : o.guard = none) (ho : o.op = .call { callee := .value (.func f), args, argTypes }) (hd : o.dst = some d) (hf : callable P f = true)
    (hdn : d < st.n) (hargs : (args.toList.map fun x => st.vw (st.ev x)) = vs) (hAC : AC P f vs R) (hfl : vs.all flatV = true)
    (k : ∀ r m, R r m -> (noViews r /\ ∀ k cs, (k, cs) ∈ m -> ∀ v ∈ cs, noView v) /\ AWL P ops rest Q ((st.adoptL d m).put d (shiftV d 4 r))) : AWL P ops (o :: rest) Q st := by
  subst hargs; exact AWL.callS hg ho hd hf hdn hfl hAC k
end
end Go.Abs
namespace Go.Proofs.Yteppkbaeacndiaa
open Go Go.Abs
def blk (K : Int) : Ins := ⟨K, -64, 0, 0, 0, []⟩
def end1 : Ins := ⟨11, 0, 0, 0, 0, []⟩
def cN (K : Int) (n m : Nat) : List Ins := List.replicate n (blk K) ++ List.replicate m end1
def bN (K : Int) (n m : Nat) : List Int := (List.replicate n [K, 64]).flatten ++ List.replicate m 11
def isK (K : Int) : Prop := K = 2 \/ K = 3 \/ K = 4
theorem blk_P {K : Int} (h : isK K) : insP (blk K) = ([K, 64], true) /\ (ofS K).1.1 = 2 := by
  rcases h with rfl | rfl | rfl <;> decide +kernel
theorem end_P : insP end1 = ([11], true) := by decide +kernel
theorem blk_ok {K : Int} (h : isK K) : okIns (blk K) := by
  rcases h with rfl | rfl | rfl <;> exact ok_small (by decide) rfl
theorem end_ok : okIns end1 := ok_small (by decide) rfl
theorem cN_mem {K : Int} {n m : Nat} {i : Ins} (h : i ∈ cN K n m) : i = blk K \/ i = end1 := by
  unfold cN at h
  rcases List.mem_append.1 h with h | h
  · exact .inl (List.eq_of_mem_replicate h)
  · exact .inr (List.eq_of_mem_replicate h)
theorem cN_ok {K : Int} (hK : isK K) {n m : Nat} : ∀ i ∈ cN K n m, okIns i := fun i hi => by
  rcases cN_mem hi with rfl | rfl
  · exact blk_ok hK
  · exact end_ok
theorem cN_nil {K : Int} {n m : Nat} : ∀ i ∈ cN K n m, i.l = [] := fun i hi => by
  rcases cN_mem hi with rfl | rfl <;> rfl
theorem cN_all {K : Int} (hK : isK K) {n m : Nat} : allP (cN K n m) = true := by
  unfold allP
  refine List.all_eq_true.2 fun i hi => ?_
  rcases cN_mem hi with rfl | rfl
  · rw [(blk_P hK).1]
  · rw [end_P]
theorem cN_byt {K : Int} (hK : isK K) (n m : Nat) : bytP (cN K n m) = bN K n m := by
  unfold bytP cN bN
  rw [List.flatMap_append]
  congr 1
  · induction n with
    | zero => rfl
    | succ n ih => rw [List.replicate_succ, List.replicate_succ, List.flatMap_cons, List.flatten_cons, ih, (blk_P hK).1]
  · induction m with
    | zero => rfl
    | succ m ih => rw [List.replicate_succ, List.replicate_succ, List.flatMap_cons, ih, end_P]; rfl
theorem bN_len (K : Int) (n m : Nat) : (bN K n m).length = 2 * n + m := by
  unfold bN
  rw [List.length_append, List.length_replicate]
  congr 1
  induction n with
  | zero => rfl
  | succ n ih => rw [List.replicate_succ, List.flatten_cons, List.length_append, ih]; simp only [List.length_cons, List.length_nil]; omega
theorem cN_len (K : Int) (n m : Nat) : (cN K n m).length = n + m := by unfold cN; rw [List.length_append, List.length_replicate, List.length_replicate]
theorem cN_sz (K : Int) (n m : Nat) : szC (cN K n m) = 6 * (n + m) := by
  unfold szC cN
  rw [List.map_append, List.map_replicate, List.map_replicate, List.sum_append]
  have h : ∀ k, (List.replicate k (6 + ([] : List Int).length)).sum = 6 * k := fun k => by
    induction k with
    | zero => rfl
    | succ k ih => rw [List.replicate_succ, List.sum_cons, ih]; simp only [List.length_nil]; omega
  have h1 := h n
  have h2 := h m
  show (List.replicate n (6 + ([] : List Int).length)).sum + (List.replicate m (6 + ([] : List Int).length)).sum = _
  omega
theorem bN_up (K : Int) (k : Nat) : bN K (k + 1) 0 = bN K k 0 ++ [K, 64] := by
  unfold bN
  simp only [List.replicate_zero, List.append_nil]
  rw [List.replicate_succ', List.flatten_append]; simp
theorem bN_down (K : Int) (n k : Nat) : bN K n (k + 1) = bN K n k ++ [11] := by
  unfold bN; rw [List.replicate_succ', List.append_assoc]
theorem cN_up (K : Int) (k : Nat) : cN K (k + 1) 0 = cN K k 0 ++ [blk K] := by
  unfold cN
  simp only [List.replicate_zero, List.append_nil]
  rw [List.replicate_succ']
theorem cN_down (K : Int) (n k : Nat) : cN K n (k + 1) = cN K n k ++ [end1] := by
  unfold cN; rw [List.replicate_succ', List.append_assoc]
theorem closed_up {K : Int} (hK : isK K) : ∀ (k : Nat) (o : List Int) (t : List Ins), o.length + k <= 128 -> closedL o (List.replicate k (blk K) ++ t) = closedL (o ++ List.replicate k K) t
  | 0, o, t, _ => by rw [List.replicate_zero, List.replicate_zero, List.nil_append, List.append_nil]
  | k + 1, o, t, h => by
    rw [List.replicate_succ, List.cons_append, closedL, if_pos (show (blk K).op = 2 \/ (blk K).op = 3 \/ (blk K).op = 4 from hK), if_neg (by omega), closed_up hK k _ t (by rw [List.length_append]; simp only [List.length_cons, List.length_nil]; omega), List.append_assoc]
    rfl
theorem closed_over {K : Int} (hK : isK K) : ∀ (k : Nat) (o : List Int) (t : List Ins), o.length <= 128 -> 128 < o.length + k -> closedL o (List.replicate k (blk K) ++ t) = false
  | 0, o, t, h, h2 => by omega
  | k + 1, o, t, h, h2 => by
    rw [List.replicate_succ, List.cons_append, closedL, if_pos (show (blk K).op = 2 \/ (blk K).op = 3 \/ (blk K).op = 4 from hK)]
    by_cases c : o.length = 128
    · rw [if_pos c]
    · rw [if_neg c]
      exact closed_over hK k _ t (by rw [List.length_append]; simp only [List.length_cons, List.length_nil]; omega) (by rw [List.length_append]; simp only [List.length_cons, List.length_nil]; omega)
theorem closed_down : ∀ (m : Nat) (o : List Int), o.length = m -> closedL o (List.replicate (m + 1) end1) = true
  | 0, o, h => by
    rw [List.replicate_succ, closedL, if_neg (by decide), if_neg (by decide), if_pos (by decide), if_pos h]; rfl
  | m + 1, o, h => by
    rw [List.replicate_succ, closedL, if_neg (by decide), if_neg (by decide), if_pos (by decide), if_neg (by omega)]
    exact closed_down m _ (by rw [List.length_take]; omega)
theorem write_open {K : Int} (hK : isK K) (n : Nat) : writeS (cN K n 0) = ([], 1) := by
  unfold writeS
  rw [if_neg]
  intro h
  have h1 := h.1
  unfold cN at h1
  by_cases c : n <= 128
  · rw [closed_up hK n [] _ (by simpa using c)] at h1
    simp only [List.replicate_zero] at h1
    rw [closedL] at h1; cases h1
  · rw [closed_over hK n [] _ (by simp) (by simp; omega)] at h1; cases h1
theorem write_full {K : Int} (hK : isK K) {n : Nat} (h : n <= 128) : writeS (cN K n (n + 1)) = (bN K n (n + 1), 0) := by
  have hc : closedL [] (cN K n (n + 1)) = true := by
    unfold cN
    rw [closed_up hK n [] _ (by simpa using h)]
    exact closed_down n _ (by simp)
  unfold writeS
  rw [cN_byt hK, if_pos ⟨hc, cN_all hK⟩]
theorem write_deep {K : Int} (hK : isK K) {n : Nat} (h : 128 < n) (m : Nat) : writeS (cN K n m) = ([], 1) := by
  unfold writeS
  rw [if_neg]
  intro h2
  have h1 := h2.1
  unfold cN at h1
  rw [closed_over hK n [] _ (by simp) (by simpa using h)] at h1; cases h1
theorem bN_bytes {K : Int} (hK : isK K) (n m : Nat) : bytes (bN K n m) := by
  rw [<- cN_byt hK]; exact bytP_bytes (cN_ok hK) (cN_all hK)
theorem read_full {K : Int} (hK : isK K) {n : Nat} (h : n <= 128) : readS (bN K n (n + 1)) 0 = (cN K n (n + 1), ((bN K n (n + 1)).length : Int), 0) := by
  have h1 := readS_back (pre := []) (post := []) (code := cN K n (n + 1)) (cN_ok hK) (fun x hx => by cases hx) (fun x hx => by cases hx) (by rw [write_full hK h])
  rw [write_full hK h, List.append_nil, List.nil_append] at h1
  refine h1.trans ?_
  simp
theorem read_open {K : Int} (hK : isK K) {n : Nat} (h : n <= 128) : readS (bN K n 0) 0 = ([], 0, 10) := by
  have h1 := readS_short (code := cN K n (n + 1)) (cN_ok hK) (by rw [write_full hK h]) (by rw [write_full hK h]; simp only; rw [bN_len]; omega) (k := 2 * n) (by rw [write_full hK h]; simp only; rw [bN_len]; omega)
  rw [write_full hK h] at h1
  simp only at h1
  have h2 : (bN K n (n + 1)).take (2 * n) = bN K n 0 := by
    have h3 := bN_len K n 0
    have h4 : bN K n (n + 1) = bN K n 0 ++ List.replicate (n + 1) 11 := by unfold bN; simp
    rw [h4, List.take_append_of_le_length (by omega), List.take_of_length_le (by omega)]
  rw [h2] at h1; exact h1
theorem readL_deep {b : List Int} (hb : bytes b) {K : Int} (hK : isK K) : ∀ (k m : Nat) (p : Nat) (o j : List Int) (l : List Ins) (rest : List Int), k <= m -> p <= b.length -> b.drop p = (List.replicate k [K, 64]).flatten ++ rest -> o.length <= 128 -> 128 < o.length + k ->
    readL b m ⟨p, o, j, 0⟩ l = ([], 0, 3)
  | 0, _, _, _, _, _, _, _, _, _, h, h2 => by omega
  | k + 1, m, p, o, j, l, rest, hm, hp, hd, h1, h2 => by
    obtain ⟨m', rfl⟩ : ∃ m', m = m' + 1 := ⟨m - 1, by omega⟩
    obtain ⟨hP, hf⟩ := blk_P hK
    obtain ⟨y1, y2, y3, y4⟩ := insP_yes (i := blk K) (by rw [hP])
    have hK2 := hK
    unfold isK at hK2
    have hop : opB K = [K] := by unfold opB; rw [if_neg (by omega), Int.emod_eq_of_lt (by omega) (by omega)]
    have htl : tailB (blk K) 2 = [64] := rfl
    rw [List.replicate_succ, List.flatten_cons] at hd
    have hd1 : b.drop p = opB K ++ ([64] ++ ((List.replicate k [K, 64]).flatten ++ rest)) := by rw [hd, hop]; simp
    have ho := opc_at (p := p) y1 hd1
    have hl1 := drop_ok hd1 (by rw [hop]; simp)
    rw [hop] at hl1
    simp only [List.length_cons, List.length_nil] at hl1
    have hl2 := drop_ok hl1.2 (by simp)
    simp only [List.length_cons, List.length_nil] at hl2
    have hf2 := fld_at (p := p + 1) (rest := (List.replicate k [K, 64]).flatten ++ rest) (blk_ok hK) (form := 2) ⟨by decide, by decide⟩ (by rw [<- hf]; exact y2) (by rw [<- hf]; exact y3) (by rw [htl]; exact hl1.2) (by omega)
    have s1 := step_cases hb (k := p) (o := o) (j := j) ⟨by simp only; omega, by simp only; omega⟩ (n := m') (l := l) rfl
    generalize readL b (m' + 1) ⟨p, o, j, 0⟩ l = A at s1 ⊢
    rw [show (blk K).op = K from rfl] at ho hf2
    rw [ho, hop] at s1
    simp only [List.length_cons, List.length_nil] at s1
    rcases s1 with ⟨g, _⟩ | ⟨_, _, _, g⟩
    · exact absurd rfl g
    · have g := g _ rfl
      rw [hf] at g
      rw [show ((p : Int) + ((0 + 1 : Nat) : Int)) = ((p + 1 : Nat) : Int) by omega, hf2, htl] at g
      simp only [List.length_cons, List.length_nil] at g
      rcases g with ⟨g, _⟩ | ⟨_, _, g⟩
      · exact absurd rfl g
      · unfold Rnd at g
        rcases g with ⟨a1, a2, a3⟩ | ⟨a1, a2, a3⟩ | ⟨a1, _⟩ | ⟨a1, _⟩ | ⟨a1, _⟩ | ⟨a1, _⟩ | ⟨a1, _⟩ | ⟨a1, _⟩
        · exact a3
        · rw [<- a3]
          rw [show (((p + 1 : Nat) : Int) + ((0 + 1 : Nat) : Int)) = ((p + 1 + 1 : Nat) : Int) by omega]
          exact readL_deep hb hK k m' (p + 1 + 1) _ _ _ rest (by omega) (by omega) hl2.2 (by rw [List.length_append]; simp only [List.length_cons, List.length_nil]; omega) (by rw [List.length_append]; simp only [List.length_cons, List.length_nil]; omega)
        all_goals (exfalso; omega)
theorem read_deep {K : Int} (hK : isK K) {n : Nat} (h : 128 < n) (m : Nat) : readS (bN K n m) 0 = ([], 0, 3) := by
  unfold readS
  rw [if_neg (by omega)]
  have hl := bN_len K n m
  exact readL_deep (bN_bytes hK n m) hK n _ 0 [] [] [] (List.replicate m 11) (by omega) (by omega) (by rw [List.drop_zero]; rfl) (by simp) (by simpa using h)
def nilI (i : Ins) : List V := [.int .i64 i.op, .int .i64 i.a, .int .i64 i.b, .int .u64 i.lo, .int .u64 i.hi, .nils]
def nilC (c : List Ins) : List V := c.flatMap nilI
theorem nilC_snoc (c : List Ins) (i : Ins) : nilC (c ++ [i]) = nilC c ++ nilI i := by unfold nilC; rw [List.flatMap_append, List.flatMap_cons, List.flatMap_nil, List.append_nil]
theorem nilC_len (c : List Ins) : (nilC c).length = c.length * 6 := by
  unfold nilC
  induction c with
  | nil => rfl
  | cons i t ih => rw [List.flatMap_cons, List.length_append, ih, List.length_cons]; show 6 + _ = _; omega
theorem nilC_fk : ∀ {c : List Ins}, (∀ i ∈ c, i.l = []) -> FkL (nilC c) (codeC c)
  | [], _ => .nil
  | i :: t, h => by
    have ih := nilC_fk (c := t) (fun j hj => h j (List.mem_cons_of_mem _ hj))
    have hl := h i (List.mem_cons_self ..)
    have e1 : nilC (i :: t) = nilI i ++ nilC t := by unfold nilC; rw [List.flatMap_cons]
    have e2 : codeC (i :: t) = insC i ++ codeC t := by unfold codeC; rw [List.flatMap_cons]
    rw [e1, e2]
    refine FkL.app ?_ ih
    unfold nilI insC
    rw [hl]
    exact .cons (Fk.refl _) (.cons (Fk.refl _) (.cons (Fk.refl _) (.cons (Fk.refl _) (.cons (Fk.refl _) (.cons (Fk.nils 1) .nil)))))
theorem Wk.toAny (v : V) : Go.Abs.Wk v .any := fun _ _ _ u _ => .any u
end Go.Proofs.Yteppkbaeacndiaa
