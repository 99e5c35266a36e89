/- with, whose answer's cells are the caller's own. -/
import Derived.Test.YtgogfiojmmohoaaV6
import Derived.Test.YtgogfiojmmohoaaWith
namespace Go.Proofs.Ytgogfiojmmohoaa
set_option linter.unusedSimpArgs false
set_option linter.unusedVariables false
open Go Go.Abs
attribute [local irreducible] AW AWL AC FW CW CWr IntKind.wrap

/-- the functions, of which one has cells in the object K -/
def nstF (fs : List Fn) (j K : Nat) : List V := List.take (j * 7 + 5) (funC fs) ++ [.ref K 0 (fs.getD j fn0).cs.length 3] ++ List.drop (j * 7 + 5 + 1) (funC fs)
theorem rowsC_all {α : Type} {e : α → List V} {f : V → Bool} (h : ∀ x, (e x).all f = true) (l : List α) : (rowsC e l).all f = true := by
  induction l with
  | nil => rfl
  | cons x l ih => rw [rowsC, List.all_append, h, ih]; rfl
theorem funC_flat (fs : List Fn) : (funC fs).all flatC = true := rowsC_all (fun _ => rfl) fs
theorem funC_cell1 (fs : List Fn) : (funC fs).all V.cell1 = true := rowsC_all (fun _ => rfl) fs
theorem map_id {l : List V} {g : V → V} (h : ∀ v ∈ l, g v = v) : l.map g = l := by
  induction l with
  | nil => rfl
  | cons v l ih => rw [List.map_cons, h v (List.mem_cons_self ..), ih (fun x hx => h x (List.mem_cons_of_mem _ hx))]
theorem flat_wipe (k : Nat) {v : V} (h : flatC v = true) : V.wipe k 3 v = v := by
  cases v <;> first | rfl | (cases h; done) | skip
  case fn f cap => cases cap with
    | nil => rfl
    | cons => cases h
theorem flat_frz (k : Nat) (cs : List V) {v : V} (h : flatC v = true) : V.frz k cs 3 v = v := by
  cases v <;> first | rfl | (cases h; done) | skip
  case fn f cap => cases cap with
    | nil => rfl
    | cons => cases h
theorem flat_rk (σ : Nat → Option Nat) {v : V} (h : flatC v = true) : V.rk σ 3 v = v := by
  cases v <;> first | rfl | (cases h; done) | skip
  case fn f cap => cases cap with
    | nil => rfl
    | cons => cases h
theorem funC_map (fs : List Fn) {g : V → V} (h : ∀ v, flatC v = true → g v = v) : (funC fs).map g = funC fs := map_id (fun v hv => h v (List.all_eq_true.1 (funC_flat fs) v hv))
theorem funC_wipe (fs : List Fn) (k : Nat) : List.map (V.wipe k 3) (funC fs) = funC fs := funC_map fs (fun v h => flat_wipe k h)
theorem nst_map (fs : List Fn) (j K : Nat) {g : V → V} (h : ∀ v, flatC v = true → g v = v) : (nstF fs j K).map g = List.take (j * 7 + 5) (funC fs) ++ [g (.ref K 0 (fs.getD j fn0).cs.length 3)] ++ List.drop (j * 7 + 5 + 1) (funC fs) := by
  rw [nstF, List.map_append, List.map_append, List.map_take, List.map_drop, funC_map fs h]; rfl
theorem nst_wipe (fs : List Fn) (j K k : Nat) (h : (K == k) = false) : List.map (V.wipe k 3) (nstF fs j K) = nstF fs j K := by
  rw [nst_map fs j K (fun v h => flat_wipe k h)]
  have : V.wipe k 3 (.ref K 0 (fs.getD j fn0).cs.length 3) = .ref K 0 (fs.getD j fn0).cs.length 3 := by
    show (bif K == k then V.any else .ref K 0 _ 3) = _
    rw [h]; rfl
  rw [this]; rfl
theorem nst_rk (fs : List Fn) (j K K' : Nat) (σ : Nat → Option Nat) (h : σ K = some K') : List.map (V.rk σ 3) (nstF fs j K) = nstF fs j K' := by
  rw [nst_map fs j K (fun v h => flat_rk σ h)]
  have : V.rk σ 3 (.ref K 0 (fs.getD j fn0).cs.length 3) = .ref K' 0 (fs.getD j fn0).cs.length 3 := by
    show (match σ K with | some j => V.ref j 0 _ 3 | none => V.any) = _
    rw [h]
  rw [this]; rfl
theorem nst_frz (fs : List Fn) {j : Nat} (hj : j < fs.length) (K : Nat) (cs' : List V) : List.map (V.frz K cs' 3) (nstF fs j K) = List.take (j * 7 + 5) (funC fs) ++ [.view (fs.getD j fn0).cs.length 3 (List.take ((fs.getD j fn0).cs.length * 3) (List.drop 0 cs'))] ++ List.drop (j * 7 + 5 + 1) (funC fs) := by
  rw [nst_map fs j K (fun v h => flat_frz K cs' h)]
  have : V.frz K cs' 3 (.ref K 0 (fs.getD j fn0).cs.length 3) = .view (fs.getD j fn0).cs.length 3 (List.take ((fs.getD j fn0).cs.length * 3) (List.drop 0 cs')) := by
    show (bif K == K then V.view _ 3 _ else V.ref K 0 _ 3) = _
    simp
  rw [this]
theorem nst_len (fs : List Fn) {j : Nat} (hj : j < fs.length) (K : Nat) : (nstF fs j K).length = fs.length * 7 := by
  have := funC_len fs
  simp only [nstF, List.length_append, List.length_take, List.length_drop, List.length_cons, List.length_nil]; omega
theorem nst_at (fs : List Fn) {j : Nat} (hj : j < fs.length) (K : Nat) : List.drop (j * 7 + 5) (nstF fs j K) = .ref K 0 (fs.getD j fn0).cs.length 3 :: List.drop (j * 7 + 5 + 1) (funC fs) := by
  have := funC_len fs
  have e : (List.take (j * 7 + 5) (funC fs)).length = j * 7 + 5 := by rw [List.length_take]; omega
  rw [nstF, List.append_assoc, List.drop_left' e]; rfl
theorem keysL_take (n : Nat) (l : List V) (k : Nat) (h : l.all flatC = true) : keysL (n + 1) (l.take k) = some [] := keysL_flat n (by
  rw [List.all_eq_true] at h ⊢; exact fun x hx => h x (List.mem_of_mem_take hx))
theorem keysL_drop (n : Nat) (l : List V) (k : Nat) (h : l.all flatC = true) : keysL (n + 1) (l.drop k) = some [] := keysL_flat n (by
  rw [List.all_eq_true] at h ⊢; exact fun x hx => h x (List.mem_of_mem_drop hx))
theorem nst_keys (fs : List Fn) (j K : Nat) : keysL 3 (nstF fs j K) = some [K] := by
  rw [nstF]
  exact keysL_append 3 (keysL_append 3 (keysL_take 2 _ _ (funC_flat fs)) (ks := [K]) rfl) (keysL_drop 2 _ _ (funC_flat fs))
set_option maxHeartbeats 3200000 in
theorem with_nest (sg : List Sg) (fs : List Fn) (hp : okP ⟨sg, fs⟩) (j : Nat) (hj : j < fs.length) : AM Try.prog 11 [.agg [.view sg.length 2 (sigC sg), .view fs.length 7 (funC fs)], .int .i64 j] [] []
    (fun r m => r = .agg [.view sg.length 2 (sigC sg), .ref 7 0 fs.length 7] ∧ m = [(7, ⟨false, nstF fs j 22⟩), (22, ⟨true, celC (fs.getD j fn0).cs⟩)]) := by
  have hsl : sg.length ≤ 2000000 := hp.1
  have hfl : fs.length ≤ 2000000 := hp.2.1
  have hd := fun_drop (l := fs) (k := j) hj
  have hokf := hp.2.2.2 _ (getD_mem fn0 hj)
  have hnk := nst_keys fs j 22
  have hnF : nstF fs j 22 = List.take (j * 7 + 5) (funC fs) ++ [.ref 22 0 (fs.getD j fn0).cs.length 3] ++ List.drop (j * 7 + 5 + 1) (funC fs) := rfl
  obtain ⟨NF, hNF⟩ : ∃ NF, nstF fs j 22 = NF := ⟨_, rfl⟩
  rw [hNF] at hnF hnk ⊢
  generalize fs.getD j fn0 = g at hd hokf hnF ⊢
  obtain ⟨h', s, i', o, l, cs, ms⟩ := g
  simp only [tfun, List.cons_append, List.nil_append] at hd
  simp only at hnF ⊢
  have hcs : cs.length ≤ 2000000 := hokf.1
  have hfC := funC_len fs
  have hw := funC_wipe fs
  have hne : funC fs ≠ [] := by intro e; rw [e] at hd; simp at hd
  have hce : List.take (cs.length * 3) (celC cs) = celC cs := List.take_of_length_le (by rw [celC_len]; omega)
  refine AM.enter Try.func11 rfl (Nat.le_of_ble_eq_true rfl) (fun pn => ?_)
  simp only [Try.f11]
  have hchk : True := by simp only [TY, SLS, List.set_cons_zero, List.set_cons_succ, sl27, sl25, sl36, sl3, sl4, sl5, sl9, nums_length, byts_V, byts_len, byFn2, byCl, hd, hfC, hw]
  repeat' (first
    | ((with_reducible show AWL _ _ _ _ _); first
        | (refine AWL.opN (sl := SL) rfl rfl rfl trivial ?_; (try (conv => arg -1; simp (disch := omega) only [NSX, St.keepS, Nat.reduceBEq, Nat.reduceAdd, Nat.reduceMul, Int.reduceToNat, Nat.reduceSub, TY, SLS, List.set_cons_zero, List.set_cons_succ, sl27, sl25, sl36, sl3, sl4, sl5, sl9, nums_length, byts_V, byts_len, byFn2, byCl, hd, hfC, hw])))
        | (refine AWL.nil ?_; (repeat (first | refine QEq.mp (by assumption) ?_ | simp only [thenQ, Go.Abs.blockQ, ↓reduceIte, Nat.reduceEqDiff])))
        | ((first | (refine AWL.boxF (t := 64) rfl rfl rfl rfl rfl ?_) | (refine AWL.allocF (t := 64) rfl rfl rfl rfl rfl rfl ?_) | (refine AWL.op (sl := SL) rfl rfl ?_ ?_)) <;> (try ((first | show AWL _ _ _ _ _ | show AW _ _ _ _ | show FW _ _ _ _ _ _ _ _ _ _ | show CW _ _ _ _ _ _ _ _ _ _ _ _ | (rintro _ _ ⟨rfl, rfl⟩; (try refine And.intro rfl ?_))); (try (conv => arg -1; simp (disch := omega) only [NSX, St.keepS, Nat.reduceBEq, Nat.reduceAdd, Nat.reduceMul, Int.reduceToNat, Nat.reduceSub, TY, SLS, List.set_cons_zero, List.set_cons_succ, sl27, sl25, sl36, sl3, sl4, sl5, sl9, nums_length, byts_V, byts_len, byFn2, byCl, hd, hfC, hw])))))
        | (refine AWL.guard2 rfl rfl rfl rfl rfl rfl ?_ ?_ <;> (intro hc; (try simp only [Bool.not_true, Bool.not_false] at hc); first | (cases hc; done) | ((try simp only [hc]); (try simp only [beq_iff_eq, bne_iff_ne, decide_eq_true_eq, decide_eq_false_iff_not, beq_eq_false_iff_ne, bne_eq_false_iff_eq, ne_eq, Bool.not_eq_true, Bool.not_eq_false, Bool.not_eq_eq_eq_not, Bool.not_true, Bool.not_false, Decidable.not_not, Int.not_lt, Int.not_le, decide_eq_decide, not_true_eq_false] at hc); (try (exfalso; omega)); (try (guard_hyp hc : True; clear hc)))) <;> (try (first | (with_reducible show AWL _ _ _ _ (St.put _ _ _)) | (with_reducible show CW _ _ _ _ _ _ _ _ _ _ _ (St.put _ _ _))); (try (conv => arg -1; simp (disch := omega) only [NSX, St.keepS, Nat.reduceBEq, Nat.reduceAdd, Nat.reduceMul, Int.reduceToNat, Nat.reduceSub, TY, SLS, List.set_cons_zero, List.set_cons_succ, sl27, sl25, sl36, sl3, sl4, sl5, sl9, nums_length, byts_V, byts_len, byFn2, byCl, hd, hfC, hw]))))
        | (refine AWL.guard2 rfl rfl rfl rfl rfl rfl (fun hc => ?_) ?_; (cases hc; done))
        | (refine AWL.guardU rfl rfl rfl rfl rfl rfl ?_; (try (conv => arg -1; simp (disch := omega) only [NSX, St.keepS, Nat.reduceBEq, Nat.reduceAdd, Nat.reduceMul, Int.reduceToNat, Nat.reduceSub, TY, SLS, List.set_cons_zero, List.set_cons_succ, sl27, sl25, sl36, sl3, sl4, sl5, sl9, nums_length, byts_V, byts_len, byFn2, byCl, hd, hfC, hw]))))
    | ((with_reducible show CWr _ _ _ _ _ _ _ _ _ _ _ _ _ _); first
        | ((first | (refine CWr.allocF (t := 64) rfl rfl rfl ?_ ?_) | (refine CWr.op rfl ?_ ?_ ?_) | (refine CWr.build0 rfl rfl ?_ ?_) | (refine CWr.app0 rfl rfl rfl rfl ?_ rfl ?_ ?_ ?_) | (refine CWr.assign rfl ?_ ?_) | (refine CWr.alloc rfl rfl rfl rfl ?_) | (refine CWr.build rfl rfl rfl rfl ?_ rfl rfl rfl ?_)) <;> (try ((first | show AWL _ _ _ _ _ | show AW _ _ _ _ | show FW _ _ _ _ _ _ _ _ _ _ | show CW _ _ _ _ _ _ _ _ _ _ _ _ | (rintro _ _ ⟨rfl, rfl⟩; (try refine And.intro rfl ?_))); (try (conv => arg -1; simp (disch := omega) only [NSX, St.keepS, Nat.reduceBEq, Nat.reduceAdd, Nat.reduceMul, Int.reduceToNat, Nat.reduceSub, TY, SLS, List.set_cons_zero, List.set_cons_succ, sl27, sl25, sl36, sl3, sl4, sl5, sl9, nums_length, byts_V, byts_len, byFn2, byCl, hd, hfC, hw]))))))
    | ((with_reducible show CW _ _ _ _ _ _ _ _ _ _ _ _); first
        | refine CW.skip rfl rfl ?_
        | refine CW.step rfl rfl rfl rfl rfl ?_
        | (refine CW.nil ?_; (repeat (first | refine QEq.mp (by assumption) ?_ | simp only [thenQ, Go.Abs.blockQ, ↓reduceIte, Nat.reduceEqDiff])))
        | (refine CW.guard2 rfl rfl rfl rfl rfl rfl rfl rfl ?_ ?_ <;> (intro hc; (try simp only [Bool.not_true, Bool.not_false] at hc); first | (cases hc; done) | ((try simp only [hc]); (try simp only [beq_iff_eq, bne_iff_ne, decide_eq_true_eq, decide_eq_false_iff_not, beq_eq_false_iff_ne, bne_eq_false_iff_eq, ne_eq, Bool.not_eq_true, Bool.not_eq_false, Bool.not_eq_eq_eq_not, Bool.not_true, Bool.not_false, Decidable.not_not, Int.not_lt, Int.not_le, decide_eq_decide, not_true_eq_false] at hc); (try (exfalso; omega)); (try (guard_hyp hc : True; clear hc)))) <;> (try (first | (with_reducible show AWL _ _ _ _ (St.put _ _ _)) | (with_reducible show CW _ _ _ _ _ _ _ _ _ _ _ (St.put _ _ _))); (try (conv => arg -1; simp (disch := omega) only [NSX, St.keepS, Nat.reduceBEq, Nat.reduceAdd, Nat.reduceMul, Int.reduceToNat, Nat.reduceSub, TY, SLS, List.set_cons_zero, List.set_cons_succ, sl27, sl25, sl36, sl3, sl4, sl5, sl9, nums_length, byts_V, byts_len, byFn2, byCl, hd, hfC, hw]))))
        | (refine CW.guardU rfl rfl rfl rfl rfl rfl rfl rfl ?_; (try (conv => arg -1; simp (disch := omega) only [NSX, St.keepS, Nat.reduceBEq, Nat.reduceAdd, Nat.reduceMul, Int.reduceToNat, Nat.reduceSub, TY, SLS, List.set_cons_zero, List.set_cons_succ, sl27, sl25, sl36, sl3, sl4, sl5, sl9, nums_length, byts_V, byts_len, byFn2, byCl, hd, hfC, hw])))
        | refine CW.tail rfl ?_)
    | ((with_reducible show True); first
        | exact trivial)
    | ((with_reducible show FitV _ _ _ _ _ _); first
        | ((repeat' (first | exact trivial | exact Or.inr (Or.inl rfl) | exact Or.inl rfl | exact Or.inr (Or.inr rfl) | refine And.intro ?_ ?_)); done))
    | ((with_reducible show newKs _ _ _ = true); first
        | kernel_rfl)
    | ((with_reducible show FW _ _ _ _ _ _ _ _ _ _); first
        | refine FW.pass rfl rfl ?_
        | refine FW.go rfl ?_
        | refine FW.nil ?_
        | ((first | (refine FW.float rfl rfl rfl rfl rfl ?_)) <;> (try ((first | show AWL _ _ _ _ _ | show AW _ _ _ _ | show FW _ _ _ _ _ _ _ _ _ _ | show CW _ _ _ _ _ _ _ _ _ _ _ _ | (rintro _ _ ⟨rfl, rfl⟩; (try refine And.intro rfl ?_))); (try (conv => arg -1; simp (disch := omega) only [NSX, St.keepS, Nat.reduceBEq, Nat.reduceAdd, Nat.reduceMul, Int.reduceToNat, Nat.reduceSub, TY, SLS, List.set_cons_zero, List.set_cons_succ, sl27, sl25, sl36, sl3, sl4, sl5, sl9, nums_length, byts_V, byts_len, byFn2, byCl, hd, hfC, hw]))))))
    | ((with_reducible show AW _ _ _ _); first
        | (refine AW.seqQ ?_; intro Qn hQn; (try have hPn := QEq.pan hQn (panOk_then (by (first | assumption | exact panOk_end | exact panOk_endM | exact panOk_then (by first | assumption | exact panOk_end | exact panOk_endM) | exact panOk_block (by first | assumption | exact panOk_end | exact panOk_endM))))))
        | (refine AW.blockQ ?_; intro Qn hQn; (try have hPn := QEq.pan hQn (panOk_block (by (first | assumption | exact panOk_end | exact panOk_endM | exact panOk_then (by first | assumption | exact panOk_end | exact panOk_endM) | exact panOk_block (by first | assumption | exact panOk_end | exact panOk_endM))))))
        | ((show AW _ (.region _ _ false) _ _); (fail_if_success (show AW _ (.region 3 _ _) _ _)); refine AW.keepS [0, 1, 2, 4, 5] ?_; (try (conv => arg -1; simp (disch := omega) only [NSX, St.keepS, Nat.reduceBEq, Nat.reduceAdd, Nat.reduceMul, Int.reduceToNat, Nat.reduceSub, TY, SLS, List.set_cons_zero, List.set_cons_succ, sl27, sl25, sl36, sl3, sl4, sl5, sl9, nums_length, byts_V, byts_len, byFn2, byCl, hd, hfC, hw])); (fail_if_success (show AW _ (.region 3 _ _) _ _)); refine AW.region ?_)
        | ((first | refine AW.skip ?_ | refine AW.ret ?_ | refine AW.exit ?_); (repeat (first | refine QEq.mp (by assumption) ?_ | simp only [thenQ, Go.Abs.blockQ, ↓reduceIte, Nat.reduceEqDiff])))
        | (refine AW.cond rfl (fun hc => ?_) (fun hc => ?_) <;> first | (cases hc; done) | ((try simp only [beq_iff_eq, bne_iff_ne, decide_eq_true_eq, decide_eq_false_iff_not, beq_eq_false_iff_ne, bne_eq_false_iff_eq, ne_eq, Bool.not_eq_true, Bool.not_eq_false, Bool.not_eq_eq_eq_not, Bool.not_true, Bool.not_false, Decidable.not_not, Int.not_lt, Int.not_le, decide_eq_decide, not_true_eq_false] at hc); (try (exfalso; omega)); (try (guard_hyp hc : True; clear hc))))
        | (((show AW _ (.region 3 _ true) _ _); (fail_if_success (show AW _ (.region 3 _ _) _ _)); refine AW.keepS [0, 1, 2, 4, 5] ?_; (try (conv => arg -1; simp (disch := omega) only [NSX, St.keepS, Nat.reduceBEq, Nat.reduceAdd, Nat.reduceMul, Int.reduceToNat, Nat.reduceSub, TY, SLS, List.set_cons_zero, List.set_cons_succ, sl27, sl25, sl36, sl3, sl4, sl5, sl9, nums_length, byts_V, byts_len, byFn2, byCl, hd, hfC, hw])); refine AW.calm false [999999] [15, 22] (id := 3) hmix ?hpan ?hchkc rfl ?_; (case hchkc => (as_aux_lemma => kernel_rfl)); (case hpan => exact (by first | first | assumption | exact panOk_end | exact panOk_endM | exact panOk_then (by first | assumption | exact panOk_end | exact panOk_endM) | exact panOk_block (by first | assumption | exact panOk_end | exact panOk_endM) | (repeat' (first | exact panOk_end | exact panOk_endM | refine panOk_then ?_ | refine panOk_block ?_ | refine QEq.pan (by assumption) ?_))))); (try (conv => arg -1; simp (disch := omega) only [NSX, St.keepS, Nat.reduceBEq, Nat.reduceAdd, Nat.reduceMul, Int.reduceToNat, Nat.reduceSub, TY, SLS, List.set_cons_zero, List.set_cons_succ, sl27, sl25, sl36, sl3, sl4, sl5, sl9, nums_length, byts_V, byts_len, byFn2, byCl, hd, hfC, hw])))
        | (((show AW _ (.region _ _ true) _ _); (fail_if_success (show AW _ (.region 3 _ _) _ _)); refine AW.keepS [0, 1, 2, 4, 5] ?_; (try (conv => arg -1; simp (disch := omega) only [NSX, St.keepS, Nat.reduceBEq, Nat.reduceAdd, Nat.reduceMul, Int.reduceToNat, Nat.reduceSub, TY, SLS, List.set_cons_zero, List.set_cons_succ, sl27, sl25, sl36, sl3, sl4, sl5, sl9, nums_length, byts_V, byts_len, byFn2, byCl, hd, hfC, hw])); refine AW.calm false [] [] hmix ?hpan ?hchkc rfl ?_; (case hchkc => (as_aux_lemma => kernel_rfl)); (case hpan => exact (by first | first | assumption | exact panOk_end | exact panOk_endM | exact panOk_then (by first | assumption | exact panOk_end | exact panOk_endM) | exact panOk_block (by first | assumption | exact panOk_end | exact panOk_endM) | (repeat' (first | exact panOk_end | exact panOk_endM | refine panOk_then ?_ | refine panOk_block ?_ | refine QEq.pan (by assumption) ?_))))); (try (conv => arg -1; simp (disch := omega) only [NSX, St.keepS, Nat.reduceBEq, Nat.reduceAdd, Nat.reduceMul, Int.reduceToNat, Nat.reduceSub, TY, SLS, List.set_cons_zero, List.set_cons_succ, sl27, sl25, sl36, sl3, sl4, sl5, sl9, nums_length, byts_V, byts_len, byFn2, byCl, hd, hfC, hw]))))
    | ((refine EndQ.mk rfl rfl rfl ?_ ?_ ?_; (focus (first | exact Or.inl rfl | exact Or.inr rfl))) <;> (try simp (disch := omega) only [NSX, St.keepS, Nat.reduceBEq, Nat.reduceAdd, Nat.reduceMul, Int.reduceToNat, Nat.reduceSub, TY, SLS, List.set_cons_zero, List.set_cons_succ, sl27, sl25, sl36, sl3, sl4, sl5, sl9, nums_length, byts_V, byts_len, byFn2, byCl, hd, hfC, hw]))
    | (focus ((first | exact trivial | omega | (refine And.intro (by kernel_rfl) (And.intro ⟨_, (by first | exact nums_ints _ _ | rfl), (by first | exact nums_ints _ _ | rfl)⟩ (And.intro ?_ ?_)) <;> (first | rfl | assumption | (simp only [nums_length]; omega) | omega)) | (refine And.intro ?_ (And.intro ?_ ?_); (focus kernel_rfl); (focus kernel_rfl); (focus kernel_rfl)) | ((show newKs _ _ _ = true); kernel_rfl) | ((show FitV _ _ _ _ _ _); (repeat' (first | exact trivial | exact Or.inr (Or.inl rfl) | exact Or.inl rfl | exact Or.inr (Or.inr rfl) | refine And.intro ?_ ?_)); done) | assumption | ((first | refine ld_nums i3 _ _ ?_ | refine ld_nums i5 _ _ ?_ | refine at_nums i3 _ _ ?_ | refine at_nums i5 _ _ ?_); first | assumption | omega | (simp only [List.length_append]; omega)) | (simp only [byFn2, byCl, roomC]; omega) | (show _ ≤ _; omega) | (simp only [List.length_take, List.length_drop, List.length_append, List.length_cons, List.length_nil]; omega) | ((repeat' (first | exact trivial | exact rfl | exact Nat.le_of_ble_eq_true rfl | refine And.intro ?_ ?_ | fail)); done) | ((try simp (disch := omega) only [NSX, St.keepS, Nat.reduceBEq, Nat.reduceAdd, Nat.reduceMul, Int.reduceToNat, Nat.reduceSub, TY, SLS, List.set_cons_zero, List.set_cons_succ, sl27, sl25, sl36, sl3, sl4, sl5, sl9, nums_length, byts_V, byts_len, byFn2, byCl, hd, hfC, hw]); (repeat' (first | exact trivial | exact rfl | exact ⟨_, _, rfl⟩ | exact ⟨_, rfl⟩ | exact Nat.le_of_ble_eq_true rfl | exact Nat.zero_lt_succ _ | omega | (simp only [nums_length, byts_len] at *; omega) | refine And.intro ?_ ?_ | fail)); done)); done))
    | fail)
  refine AW.unflat 7 rfl hne ?_
  try simp (disch := omega) only [NSX, St.keepS, Nat.reduceBEq, Nat.reduceAdd, Nat.reduceMul, Int.reduceToNat, Nat.reduceSub, TY, SLS, List.set_cons_zero, List.set_cons_succ, sl27, sl25, sl36, sl3, sl4, sl5, sl9, nums_length, byts_V, byts_len, byFn2, byCl, hw]
  have hchk : True := by simp only [TY, SLS, List.set_cons_zero, List.set_cons_succ, sl27, sl25, sl36, sl3, sl4, sl5, sl9, nums_length, byts_V, byts_len, byFn2, byCl, hd, hfC, hw, hce]
  repeat' (first
    | ((with_reducible show AWL _ _ _ _ _); first
        | (refine AWL.opN (sl := SL) rfl rfl rfl trivial ?_; (try (conv => arg -1; simp (disch := omega) only [NSX, St.keepS, Nat.reduceBEq, Nat.reduceAdd, Nat.reduceMul, Int.reduceToNat, Nat.reduceSub, TY, SLS, List.set_cons_zero, List.set_cons_succ, sl27, sl25, sl36, sl3, sl4, sl5, sl9, nums_length, byts_V, byts_len, byFn2, byCl, hd, hfC, hw, hce])))
        | (refine AWL.nil ?_; (repeat (first | refine QEq.mp (by assumption) ?_ | simp only [thenQ, Go.Abs.blockQ, ↓reduceIte, Nat.reduceEqDiff])))
        | ((first | (refine AWL.boxF (t := 64) rfl rfl rfl rfl rfl ?_) | (refine AWL.allocF (t := 64) rfl rfl rfl rfl rfl rfl ?_) | (refine AWL.op (sl := SL) rfl rfl ?_ ?_)) <;> (try ((first | show AWL _ _ _ _ _ | show AW _ _ _ _ | show FW _ _ _ _ _ _ _ _ _ _ | show CW _ _ _ _ _ _ _ _ _ _ _ _ | (rintro _ _ ⟨rfl, rfl⟩; (try refine And.intro rfl ?_))); (try (conv => arg -1; simp (disch := omega) only [NSX, St.keepS, Nat.reduceBEq, Nat.reduceAdd, Nat.reduceMul, Int.reduceToNat, Nat.reduceSub, TY, SLS, List.set_cons_zero, List.set_cons_succ, sl27, sl25, sl36, sl3, sl4, sl5, sl9, nums_length, byts_V, byts_len, byFn2, byCl, hd, hfC, hw, hce])))))
        | (refine AWL.guard2 rfl rfl rfl rfl rfl rfl ?_ ?_ <;> (intro hc; (try simp only [Bool.not_true, Bool.not_false] at hc); first | (cases hc; done) | ((try simp only [hc]); (try simp only [beq_iff_eq, bne_iff_ne, decide_eq_true_eq, decide_eq_false_iff_not, beq_eq_false_iff_ne, bne_eq_false_iff_eq, ne_eq, Bool.not_eq_true, Bool.not_eq_false, Bool.not_eq_eq_eq_not, Bool.not_true, Bool.not_false, Decidable.not_not, Int.not_lt, Int.not_le, decide_eq_decide, not_true_eq_false] at hc); (try (exfalso; omega)); (try (guard_hyp hc : True; clear hc)))) <;> (try (first | (with_reducible show AWL _ _ _ _ (St.put _ _ _)) | (with_reducible show CW _ _ _ _ _ _ _ _ _ _ _ (St.put _ _ _))); (try (conv => arg -1; simp (disch := omega) only [NSX, St.keepS, Nat.reduceBEq, Nat.reduceAdd, Nat.reduceMul, Int.reduceToNat, Nat.reduceSub, TY, SLS, List.set_cons_zero, List.set_cons_succ, sl27, sl25, sl36, sl3, sl4, sl5, sl9, nums_length, byts_V, byts_len, byFn2, byCl, hd, hfC, hw, hce]))))
        | (refine AWL.guard2 rfl rfl rfl rfl rfl rfl (fun hc => ?_) ?_; (cases hc; done))
        | (refine AWL.guardU rfl rfl rfl rfl rfl rfl ?_; (try (conv => arg -1; simp (disch := omega) only [NSX, St.keepS, Nat.reduceBEq, Nat.reduceAdd, Nat.reduceMul, Int.reduceToNat, Nat.reduceSub, TY, SLS, List.set_cons_zero, List.set_cons_succ, sl27, sl25, sl36, sl3, sl4, sl5, sl9, nums_length, byts_V, byts_len, byFn2, byCl, hd, hfC, hw, hce]))))
    | ((with_reducible show CWr _ _ _ _ _ _ _ _ _ _ _ _ _ _); first
        | ((first | (refine CWr.allocF (t := 64) rfl rfl rfl ?_ ?_) | (refine CWr.op rfl ?_ ?_ ?_) | (refine CWr.build0 rfl rfl ?_ ?_) | (refine CWr.app0 rfl rfl rfl rfl ?_ rfl ?_ ?_ ?_) | (refine CWr.assign rfl ?_ ?_) | (refine CWr.alloc rfl rfl rfl rfl ?_) | (refine CWr.build rfl rfl rfl rfl ?_ rfl rfl rfl ?_)) <;> (try ((first | show AWL _ _ _ _ _ | show AW _ _ _ _ | show FW _ _ _ _ _ _ _ _ _ _ | show CW _ _ _ _ _ _ _ _ _ _ _ _ | (rintro _ _ ⟨rfl, rfl⟩; (try refine And.intro rfl ?_))); (try (conv => arg -1; simp (disch := omega) only [NSX, St.keepS, Nat.reduceBEq, Nat.reduceAdd, Nat.reduceMul, Int.reduceToNat, Nat.reduceSub, TY, SLS, List.set_cons_zero, List.set_cons_succ, sl27, sl25, sl36, sl3, sl4, sl5, sl9, nums_length, byts_V, byts_len, byFn2, byCl, hd, hfC, hw, hce]))))))
    | ((with_reducible show CW _ _ _ _ _ _ _ _ _ _ _ _); first
        | refine CW.skip rfl rfl ?_
        | refine CW.step rfl rfl rfl rfl rfl ?_
        | (refine CW.nil ?_; (repeat (first | refine QEq.mp (by assumption) ?_ | simp only [thenQ, Go.Abs.blockQ, ↓reduceIte, Nat.reduceEqDiff])))
        | (refine CW.guard2 rfl rfl rfl rfl rfl rfl rfl rfl ?_ ?_ <;> (intro hc; (try simp only [Bool.not_true, Bool.not_false] at hc); first | (cases hc; done) | ((try simp only [hc]); (try simp only [beq_iff_eq, bne_iff_ne, decide_eq_true_eq, decide_eq_false_iff_not, beq_eq_false_iff_ne, bne_eq_false_iff_eq, ne_eq, Bool.not_eq_true, Bool.not_eq_false, Bool.not_eq_eq_eq_not, Bool.not_true, Bool.not_false, Decidable.not_not, Int.not_lt, Int.not_le, decide_eq_decide, not_true_eq_false] at hc); (try (exfalso; omega)); (try (guard_hyp hc : True; clear hc)))) <;> (try (first | (with_reducible show AWL _ _ _ _ (St.put _ _ _)) | (with_reducible show CW _ _ _ _ _ _ _ _ _ _ _ (St.put _ _ _))); (try (conv => arg -1; simp (disch := omega) only [NSX, St.keepS, Nat.reduceBEq, Nat.reduceAdd, Nat.reduceMul, Int.reduceToNat, Nat.reduceSub, TY, SLS, List.set_cons_zero, List.set_cons_succ, sl27, sl25, sl36, sl3, sl4, sl5, sl9, nums_length, byts_V, byts_len, byFn2, byCl, hd, hfC, hw, hce]))))
        | (refine CW.guardU rfl rfl rfl rfl rfl rfl rfl rfl ?_; (try (conv => arg -1; simp (disch := omega) only [NSX, St.keepS, Nat.reduceBEq, Nat.reduceAdd, Nat.reduceMul, Int.reduceToNat, Nat.reduceSub, TY, SLS, List.set_cons_zero, List.set_cons_succ, sl27, sl25, sl36, sl3, sl4, sl5, sl9, nums_length, byts_V, byts_len, byFn2, byCl, hd, hfC, hw, hce])))
        | refine CW.tail rfl ?_)
    | ((with_reducible show True); first
        | exact trivial)
    | ((with_reducible show FitV _ _ _ _ _ _); first
        | ((repeat' (first | exact trivial | exact Or.inr (Or.inl rfl) | exact Or.inl rfl | exact Or.inr (Or.inr rfl) | refine And.intro ?_ ?_)); done))
    | ((with_reducible show newKs _ _ _ = true); first
        | kernel_rfl)
    | ((with_reducible show FW _ _ _ _ _ _ _ _ _ _); first
        | refine FW.pass rfl rfl ?_
        | refine FW.go rfl ?_
        | refine FW.nil ?_
        | ((first | (refine FW.float rfl rfl rfl rfl rfl ?_)) <;> (try ((first | show AWL _ _ _ _ _ | show AW _ _ _ _ | show FW _ _ _ _ _ _ _ _ _ _ | show CW _ _ _ _ _ _ _ _ _ _ _ _ | (rintro _ _ ⟨rfl, rfl⟩; (try refine And.intro rfl ?_))); (try (conv => arg -1; simp (disch := omega) only [NSX, St.keepS, Nat.reduceBEq, Nat.reduceAdd, Nat.reduceMul, Int.reduceToNat, Nat.reduceSub, TY, SLS, List.set_cons_zero, List.set_cons_succ, sl27, sl25, sl36, sl3, sl4, sl5, sl9, nums_length, byts_V, byts_len, byFn2, byCl, hd, hfC, hw, hce]))))))
    | ((with_reducible show AW _ _ _ _); first
        | (refine AW.seqQ ?_; intro Qn hQn; (try have hPn := QEq.pan hQn (panOk_then (by (first | assumption | exact panOk_end | exact panOk_endM | exact panOk_then (by first | assumption | exact panOk_end | exact panOk_endM) | exact panOk_block (by first | assumption | exact panOk_end | exact panOk_endM))))))
        | (refine AW.blockQ ?_; intro Qn hQn; (try have hPn := QEq.pan hQn (panOk_block (by (first | assumption | exact panOk_end | exact panOk_endM | exact panOk_then (by first | assumption | exact panOk_end | exact panOk_endM) | exact panOk_block (by first | assumption | exact panOk_end | exact panOk_endM))))))
        | ((show AW _ (.region _ _ false) _ _); refine AW.keepS [0, 1, 2, 4, 5] ?_; (try (conv => arg -1; simp (disch := omega) only [NSX, St.keepS, Nat.reduceBEq, Nat.reduceAdd, Nat.reduceMul, Int.reduceToNat, Nat.reduceSub, TY, SLS, List.set_cons_zero, List.set_cons_succ, sl27, sl25, sl36, sl3, sl4, sl5, sl9, nums_length, byts_V, byts_len, byFn2, byCl, hd, hfC, hw, hce])); refine AW.region ?_)
        | ((first | refine AW.skip ?_ | refine AW.ret ?_ | refine AW.exit ?_); (repeat (first | refine QEq.mp (by assumption) ?_ | simp only [thenQ, Go.Abs.blockQ, ↓reduceIte, Nat.reduceEqDiff])))
        | (refine AW.cond rfl (fun hc => ?_) (fun hc => ?_) <;> first | (cases hc; done) | ((try simp only [beq_iff_eq, bne_iff_ne, decide_eq_true_eq, decide_eq_false_iff_not, beq_eq_false_iff_ne, bne_eq_false_iff_eq, ne_eq, Bool.not_eq_true, Bool.not_eq_false, Bool.not_eq_eq_eq_not, Bool.not_true, Bool.not_false, Decidable.not_not, Int.not_lt, Int.not_le, decide_eq_decide, not_true_eq_false] at hc); (try (exfalso; omega)); (try (guard_hyp hc : True; clear hc))))
        | (((show AW _ (.region 3 _ true) _ _); refine AW.keepS [0, 1, 2, 4, 5] ?_; (try (conv => arg -1; simp (disch := omega) only [NSX, St.keepS, Nat.reduceBEq, Nat.reduceAdd, Nat.reduceMul, Int.reduceToNat, Nat.reduceSub, TY, SLS, List.set_cons_zero, List.set_cons_succ, sl27, sl25, sl36, sl3, sl4, sl5, sl9, nums_length, byts_V, byts_len, byFn2, byCl, hd, hfC, hw, hce])); refine AW.calm false [999999] [15, 22] (id := 3) hmix ?hpan ?hchkc rfl ?_; (case hchkc => (as_aux_lemma => kernel_rfl)); (case hpan => exact (by first | first | assumption | exact panOk_end | exact panOk_endM | exact panOk_then (by first | assumption | exact panOk_end | exact panOk_endM) | exact panOk_block (by first | assumption | exact panOk_end | exact panOk_endM) | (repeat' (first | exact panOk_end | exact panOk_endM | refine panOk_then ?_ | refine panOk_block ?_ | refine QEq.pan (by assumption) ?_))))); (try (conv => arg -1; simp (disch := omega) only [NSX, St.keepS, Nat.reduceBEq, Nat.reduceAdd, Nat.reduceMul, Int.reduceToNat, Nat.reduceSub, TY, SLS, List.set_cons_zero, List.set_cons_succ, sl27, sl25, sl36, sl3, sl4, sl5, sl9, nums_length, byts_V, byts_len, byFn2, byCl, hd, hfC, hw, hce])))
        | (((show AW _ (.region _ _ true) _ _); refine AW.keepS [0, 1, 2, 4, 5] ?_; (try (conv => arg -1; simp (disch := omega) only [NSX, St.keepS, Nat.reduceBEq, Nat.reduceAdd, Nat.reduceMul, Int.reduceToNat, Nat.reduceSub, TY, SLS, List.set_cons_zero, List.set_cons_succ, sl27, sl25, sl36, sl3, sl4, sl5, sl9, nums_length, byts_V, byts_len, byFn2, byCl, hd, hfC, hw, hce])); refine AW.calm false [] [] hmix ?hpan ?hchkc rfl ?_; (case hchkc => (as_aux_lemma => kernel_rfl)); (case hpan => exact (by first | first | assumption | exact panOk_end | exact panOk_endM | exact panOk_then (by first | assumption | exact panOk_end | exact panOk_endM) | exact panOk_block (by first | assumption | exact panOk_end | exact panOk_endM) | (repeat' (first | exact panOk_end | exact panOk_endM | refine panOk_then ?_ | refine panOk_block ?_ | refine QEq.pan (by assumption) ?_))))); (try (conv => arg -1; simp (disch := omega) only [NSX, St.keepS, Nat.reduceBEq, Nat.reduceAdd, Nat.reduceMul, Int.reduceToNat, Nat.reduceSub, TY, SLS, List.set_cons_zero, List.set_cons_succ, sl27, sl25, sl36, sl3, sl4, sl5, sl9, nums_length, byts_V, byts_len, byFn2, byCl, hd, hfC, hw, hce]))))
    | ((refine EndQ.mk rfl rfl rfl ?_ ?_ ?_; (focus (first | exact Or.inl rfl | exact Or.inr rfl))) <;> (try simp (disch := omega) only [NSX, St.keepS, Nat.reduceBEq, Nat.reduceAdd, Nat.reduceMul, Int.reduceToNat, Nat.reduceSub, TY, SLS, List.set_cons_zero, List.set_cons_succ, sl27, sl25, sl36, sl3, sl4, sl5, sl9, nums_length, byts_V, byts_len, byFn2, byCl, hd, hfC, hw, hce]))
    | (focus ((first | exact trivial | omega | (refine And.intro (by kernel_rfl) (And.intro ⟨_, (by first | exact nums_ints _ _ | rfl), (by first | exact nums_ints _ _ | rfl)⟩ (And.intro ?_ ?_)) <;> (first | rfl | assumption | (simp only [nums_length]; omega) | omega)) | (refine And.intro ?_ (And.intro ?_ ?_); (focus kernel_rfl); (focus kernel_rfl); (focus kernel_rfl)) | ((show newKs _ _ _ = true); kernel_rfl) | ((show FitV _ _ _ _ _ _); (repeat' (first | exact trivial | exact Or.inr (Or.inl rfl) | exact Or.inl rfl | exact Or.inr (Or.inr rfl) | refine And.intro ?_ ?_)); done) | assumption | ((first | refine ld_nums i3 _ _ ?_ | refine ld_nums i5 _ _ ?_ | refine at_nums i3 _ _ ?_ | refine at_nums i5 _ _ ?_); first | assumption | omega | (simp only [List.length_append]; omega)) | (simp only [byFn2, byCl, roomC]; omega) | (show _ ≤ _; omega) | (simp only [List.length_take, List.length_drop, List.length_append, List.length_cons, List.length_nil]; omega) | ((repeat' (first | exact trivial | exact rfl | exact Nat.le_of_ble_eq_true rfl | refine And.intro ?_ ?_ | fail)); done) | ((try simp (disch := omega) only [NSX, St.keepS, Nat.reduceBEq, Nat.reduceAdd, Nat.reduceMul, Int.reduceToNat, Nat.reduceSub, TY, SLS, List.set_cons_zero, List.set_cons_succ, sl27, sl25, sl36, sl3, sl4, sl5, sl9, nums_length, byts_V, byts_len, byFn2, byCl, hd, hfC, hw, hce]); (repeat' (first | exact trivial | exact rfl | exact ⟨_, _, rfl⟩ | exact ⟨_, rfl⟩ | exact Nat.le_of_ble_eq_true rfl | exact Nat.zero_lt_succ _ | omega | (simp only [nums_length, byts_len] at *; omega) | refine And.intro ?_ ?_ | fail)); done)); done))
    | fail)
  rw [← hnF]
  refine EndM.mk [7, 22] rfl rfl rfl ?_ (Or.inl rfl) (fun k h => by cases h) ?_ ?_
  · simp [shutM, hnk]
  · exact ⟨Nat.le_of_ble_eq_true rfl, trivial⟩
  · exact ⟨rfl, rfl⟩
end Go.Proofs.Ytgogfiojmmohoaa
