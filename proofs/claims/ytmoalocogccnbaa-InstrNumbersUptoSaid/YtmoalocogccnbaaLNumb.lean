/- InstrNumbers. -/
import Derived.Test.YtmoalocogccnbaaV5
import Derived.Test.YtmoalocogccnbaaAwake
import Derived.Test.YtmoalocogccnbaaArity
namespace Go.Proofs.Ytmoalocogccnbaa
set_option linter.unusedSimpArgs false
set_option linter.unusedVariables false
open Go Go.Abs
attribute [local irreducible] AW AWL AC FW CW CWr IntKind.wrap

def opr (op : Int) : Bool := (ofS op).2 && (ofS op).1.2.2.1 && decide (op < 197) && decide ((ofS op).1.1 = 1) && decide (0 < (ofS op).1.2.2.2.1.length)
def chkN (op : Int) : Bool := (opr op == decide (arS op > 0)) && (!opr op || (decide (((ofS op).1.2.2.2.1.length : Int) = arS op) && decide ((ofS op).1.2.2.2.2.length = 1)))
theorem chk_all : ((List.range 197).all fun k => chkN (k : Nat)) = true := by decide +kernel
theorem neg_none : (allR.all fun r => decide (0 ≤ r.1)) = true := by decide +kernel
theorem chk_ok (op : Int) : chkN op = true := by
  by_cases h0 : 0 ≤ op
  · by_cases h1 : op < 197
    · have := List.all_eq_true.1 chk_all op.toNat (List.mem_range.2 (by omega))
      rw [show ((op.toNat : Nat) : Int) = op from by omega] at this
      exact this
    · have ha : arS op = 0 := by unfold arS; rw [if_neg (by omega), if_neg (by omega)]
      have ho : opr op = false := by unfold opr; rw [decide_eq_false h1]; simp
      unfold chkN; rw [ho, ha]; rfl
  · have ha : arS op = 0 := by unfold arS; rw [if_neg (by omega), if_neg (by omega)]
    have hf : findR op allR = none := findR_out op (fun r hr => .inl (by have := of_decide_eq_true (List.all_eq_true.1 neg_none r hr); omega))
    have ho : opr op = false := by unfold opr ofS; rw [hf]; rfl
    unfold chkN; rw [ho, ha]; rfl
set_option maxHeartbeats 3200000 in
theorem instrNumbers_ok (op : Int) : AC Try.prog 6 [.int .i64 op] (fun r m => r = .bool true ∧ m = []) := by
  have hchkk := chk_ok op
  have h1 := of_look op
  unfold chkN opr at hchkk
  generalize ofS op = z at hchkk h1
  obtain ⟨⟨fm, lm, pl, I, U⟩, ok⟩ := z
  simp only [infoL] at hchkk h1
  generalize hn : arS op = n at hchkk
  by_cases hop : ok = true ∧ pl = true ∧ op < 197 ∧ fm = 1 ∧ 0 < I.length
  · obtain ⟨rfl, rfl, h3, rfl, h5⟩ := hop
    simp only [h3, h5, decide_true, Bool.and_true, Bool.not_true, Bool.false_or, Bool.and_eq_true, decide_eq_true_eq, beq_iff_eq] at hchkk
    obtain ⟨hn0, hn1, hn2⟩ := hchkk
    have hn0 : n > 0 := of_decide_eq_true hn0.symm
    refine AC.enter Try.func6 rfl (Nat.le_of_ble_eq_true rfl) ?_
    simp only [Try.f6]
    have hchk : True := by simp only [TY, List.set_cons_zero, List.set_cons_succ, sl27, sl25, sl36, sl3, sl4, sl5, sl9, nums_length, byts_V, byts_len, hn, hn1, hn2, eq_self, decide_true]
    repeat' (first
      | (refine AWL.opN (sl := SL) rfl rfl rfl trivial ?_; (try (conv => arg -1; simp (disch := omega) only [NSX, Nat.reduceBEq, Nat.reduceAdd, Nat.reduceMul, Int.reduceToNat, Nat.reduceSub, TY, List.set_cons_zero, List.set_cons_succ, sl27, sl25, sl36, sl3, sl4, sl5, sl9, nums_length, byts_V, byts_len, hn, hn1, hn2, eq_self, decide_true])))
      | (refine AW.seqQ ?_; intro Qn hQn)
      | (refine AW.blockQ ?_; intro Qn hQn)
      | refine AW.region ?_
      | ((first | refine AW.skip ?_ | refine AW.ret ?_ | refine AW.exit ?_ | refine AWL.nil ?_ | refine CW.nil ?_); (repeat (first | refine QEq.mp (by assumption) ?_ | simp only [thenQ, Go.Abs.blockQ, ↓reduceIte, Nat.reduceEqDiff])))
      | refine FW.nil ?_
      | refine FW.pass rfl rfl ?_
      | refine FW.go rfl ?_
      | refine CW.skip rfl rfl ?_
      | refine CW.step rfl rfl rfl rfl rfl ?_
      | ((first
        | (refine AWL.boxF (t := 36) rfl rfl rfl rfl rfl ?_)
        | (refine AWL.allocF (t := 36) rfl rfl rfl rfl rfl rfl ?_)
        | (refine CWr.allocF (t := 36) rfl rfl rfl ?_ ?_)
        | (refine AWL.op (sl := SL) rfl rfl ?_ ?_)
        | (refine FW.float rfl rfl rfl rfl rfl ?_)
        | (refine CWr.op rfl ?_ ?_ ?_)
        | (refine CWr.assign rfl ?_ ?_)
        | (refine CWr.alloc rfl rfl rfl rfl ?_)
        | (refine CWr.build rfl rfl rfl rfl ?_ rfl rfl rfl ?_)
        | ((show AWL _ _ ({ dst := _, op := _, type := _, pos := _, after := _, guard := none } :: _) _ _); refine AWL.frzA rfl rfl ?_)
        | (refine AWL.callV (f := 7) rfl rfl rfl rfl ?_ (Nat.le_of_ble_eq_true rfl) rfl (awake_ok) ?_; (focus kernel_rfl))
        | (refine AWL.call (f := 7) rfl rfl rfl ?_ rfl (Nat.le_of_ble_eq_true rfl) rfl (awake_ok) ?_; (focus kernel_rfl))
        | (refine CWr.call (f := 7) rfl ?_ rfl (awake_ok) (fun _ _ h => h) ?_ ?_ ?_; (focus kernel_rfl))
        | (refine AWL.callV (f := 9) rfl rfl rfl rfl ?_ (Nat.le_of_ble_eq_true rfl) rfl (h1) ?_; (focus kernel_rfl))
        | (refine AWL.call (f := 9) rfl rfl rfl ?_ rfl (Nat.le_of_ble_eq_true rfl) rfl (h1) ?_; (focus kernel_rfl))
        | (refine CWr.call (f := 9) rfl ?_ rfl (h1) (fun _ _ h => h) ?_ ?_ ?_; (focus kernel_rfl))
        | (refine AWL.callV (f := 12) rfl rfl rfl rfl ?_ (Nat.le_of_ble_eq_true rfl) rfl (arity_ok _) ?_; (focus kernel_rfl))
        | (refine AWL.call (f := 12) rfl rfl rfl ?_ rfl (Nat.le_of_ble_eq_true rfl) rfl (arity_ok _) ?_; (focus kernel_rfl))
        | (refine CWr.call (f := 12) rfl ?_ rfl (arity_ok _) (fun _ _ h => h) ?_ ?_ ?_; (focus kernel_rfl))
        | fail) <;> (try ((first | show AWL _ _ _ _ _ | show AW _ _ _ _ | show FW _ _ _ _ _ _ _ _ _ _ | show CW _ _ _ _ _ _ _ _ _ _ _ _ | (rintro _ _ ⟨rfl, rfl⟩; (try refine And.intro rfl ?_))); (try (conv => arg -1; simp (disch := omega) only [NSX, Nat.reduceBEq, Nat.reduceAdd, Nat.reduceMul, Int.reduceToNat, Nat.reduceSub, TY, List.set_cons_zero, List.set_cons_succ, sl27, sl25, sl36, sl3, sl4, sl5, sl9, nums_length, byts_V, byts_len, hn, hn1, hn2, eq_self, decide_true])))))
      | ((first | refine AWL.guard2 rfl rfl rfl rfl rfl rfl ?_ ?_ | refine CW.guard2 rfl rfl rfl rfl rfl rfl rfl rfl ?_ ?_) <;> (intro hc; (try simp only [Bool.not_true, Bool.not_false] at hc); first | (cases hc; done) | ((try simp only [hc]); (try simp only [beq_iff_eq, bne_iff_ne, decide_eq_true_eq, decide_eq_false_iff_not, beq_eq_false_iff_ne, bne_eq_false_iff_eq, ne_eq, Bool.not_eq_true, Bool.not_eq_false, Bool.not_eq_eq_eq_not, Bool.not_true, Bool.not_false, Decidable.not_not, Int.not_lt, Int.not_le] at hc); (try (exfalso; omega)); (try (guard_hyp hc : True; clear hc)))) <;> (try (first | (with_reducible show AWL _ _ _ _ (St.put _ _ _)) | (with_reducible show CW _ _ _ _ _ _ _ _ _ _ _ (St.put _ _ _))); (try (conv => arg -1; simp (disch := omega) only [NSX, Nat.reduceBEq, Nat.reduceAdd, Nat.reduceMul, Int.reduceToNat, Nat.reduceSub, TY, List.set_cons_zero, List.set_cons_succ, sl27, sl25, sl36, sl3, sl4, sl5, sl9, nums_length, byts_V, byts_len, hn, hn1, hn2, eq_self, decide_true]))))
      | (refine AWL.guard2 rfl rfl rfl rfl rfl rfl (fun hc => ?_) ?_; (cases hc; done))
      | ((first | ((show AW _ (.region _ _ true) _ _); refine AW.calm false [] [] hmix (by (repeat' (first | exact panOk_end | exact panOk_endM | refine panOk_then ?_ | refine panOk_block ?_ | refine QEq.pan (by assumption) ?_))) ?_ rfl ?_; (focus (as_aux_lemma => kernel_rfl))) | refine AWL.guardU rfl rfl rfl rfl rfl rfl ?_ | refine CW.guardU rfl rfl rfl rfl rfl rfl rfl rfl ?_); (try (conv => arg -1; simp (disch := omega) only [NSX, Nat.reduceBEq, Nat.reduceAdd, Nat.reduceMul, Int.reduceToNat, Nat.reduceSub, TY, List.set_cons_zero, List.set_cons_succ, sl27, sl25, sl36, sl3, sl4, sl5, sl9, nums_length, byts_V, byts_len, hn, hn1, hn2, eq_self, decide_true])))
      | refine CW.tail rfl ?_
      | (refine AW.cond rfl (fun hc => ?_) (fun hc => ?_) <;> first | (cases hc; done) | ((try simp only [beq_iff_eq, bne_iff_ne, decide_eq_true_eq, decide_eq_false_iff_not, beq_eq_false_iff_ne, bne_eq_false_iff_eq, ne_eq, Bool.not_eq_true, Bool.not_eq_false, Bool.not_eq_eq_eq_not, Bool.not_true, Bool.not_false, Decidable.not_not, Int.not_lt, Int.not_le] at hc); (try (exfalso; omega)); (try (guard_hyp hc : True; clear hc))))
      | ((refine EndQ.mk rfl rfl rfl ?_ ?_ ?_; (focus (first | exact Or.inl rfl | exact Or.inr rfl))) <;> (try simp (disch := omega) only [NSX, Nat.reduceBEq, Nat.reduceAdd, Nat.reduceMul, Int.reduceToNat, Nat.reduceSub, TY, List.set_cons_zero, List.set_cons_succ, sl27, sl25, sl36, sl3, sl4, sl5, sl9, nums_length, byts_V, byts_len, hn, hn1, hn2, eq_self, decide_true]))
      | (focus ((first | exact trivial | omega | (refine And.intro (by kernel_rfl) (And.intro ⟨_, (by first | exact nums_ints _ _ | rfl), (by first | exact nums_ints _ _ | rfl)⟩ (And.intro ?_ ?_)) <;> (first | rfl | assumption | (simp only [nums_length]; omega) | omega)) | (refine And.intro ?_ (And.intro ?_ ?_); (focus kernel_rfl); (focus kernel_rfl); (focus kernel_rfl)) | ((show newKs _ _ _ = true); kernel_rfl) | ((show FitV _ _ _ _ _ _); (repeat' (first | exact trivial | exact Or.inr (Or.inl rfl) | exact Or.inl rfl | exact Or.inr (Or.inr rfl) | refine And.intro ?_ ?_)); done) | assumption | ((first | refine ld_nums i3 _ _ ?_ | refine ld_nums i5 _ _ ?_ | refine at_nums i3 _ _ ?_ | refine at_nums i5 _ _ ?_); first | assumption | omega | (simp only [List.length_append]; omega)) | (show _ ≤ _; omega) | (simp only [List.length_take, List.length_drop, List.length_append, List.length_cons, List.length_nil]; omega) | ((repeat' (first | exact trivial | exact rfl | exact Nat.le_of_ble_eq_true rfl | refine And.intro ?_ ?_ | fail)); done) | ((try simp (disch := omega) only [NSX, Nat.reduceBEq, Nat.reduceAdd, Nat.reduceMul, Int.reduceToNat, Nat.reduceSub, TY, List.set_cons_zero, List.set_cons_succ, sl27, sl25, sl36, sl3, sl4, sl5, sl9, nums_length, byts_V, byts_len, hn, hn1, hn2, eq_self, decide_true]); (repeat' (first | exact trivial | exact rfl | exact ⟨_, _, rfl⟩ | exact ⟨_, rfl⟩ | exact Nat.le_of_ble_eq_true rfl | exact Nat.zero_lt_succ _ | omega | (simp only [nums_length, byts_len] at *; omega) | refine And.intro ?_ ?_ | fail)); done)); done))
      | fail)
    all_goals first | exact ⟨trivial, trivial⟩ | exact ⟨rfl, trivial⟩ | exact ⟨rfl, rfl⟩ | exact ⟨trivial, rfl⟩ | (exfalso; omega) | trace_state
  · have ho : (ok && pl && decide (op < 197) && decide (fm = 1) && decide (0 < I.length)) = false := by
      rw [Bool.eq_false_iff]; intro h
      simp only [Bool.and_eq_true, decide_eq_true_eq] at h
      exact hop ⟨h.1.1.1.1, h.1.1.1.2, h.1.1.2, h.1.2, h.2⟩
    rw [ho] at hchkk
    simp only [Bool.and_eq_true, beq_iff_eq] at hchkk
    have hn0 : ¬ n > 0 := of_decide_eq_false hchkk.1.symm
    have hnd : decide (n > 0) = false := decide_eq_false hn0
    by_cases hI : 0 < I.length
    · have hId : decide ((I.length : Int) > 0) = true := decide_eq_true (by omega)
      refine AC.enter Try.func6 rfl (Nat.le_of_ble_eq_true rfl) ?_
      simp only [Try.f6]
      have hchk : True := by simp only [TY, List.set_cons_zero, List.set_cons_succ, sl27, sl25, sl36, sl3, sl4, sl5, sl9, nums_length, byts_V, byts_len, hn, hnd, hId, eq_self, decide_true, beq_self_eq_true]
      repeat' (first
        | (refine AWL.opN (sl := SL) rfl rfl rfl trivial ?_; (try (conv => arg -1; simp (disch := omega) only [NSX, Nat.reduceBEq, Nat.reduceAdd, Nat.reduceMul, Int.reduceToNat, Nat.reduceSub, TY, List.set_cons_zero, List.set_cons_succ, sl27, sl25, sl36, sl3, sl4, sl5, sl9, nums_length, byts_V, byts_len, hn, hnd, hId, eq_self, decide_true, beq_self_eq_true])))
        | (refine AW.seqQ ?_; intro Qn hQn)
        | (refine AW.blockQ ?_; intro Qn hQn)
        | refine AW.region ?_
        | ((first | refine AW.skip ?_ | refine AW.ret ?_ | refine AW.exit ?_ | refine AWL.nil ?_ | refine CW.nil ?_); (repeat (first | refine QEq.mp (by assumption) ?_ | simp only [thenQ, Go.Abs.blockQ, ↓reduceIte, Nat.reduceEqDiff])))
        | refine FW.nil ?_
        | refine FW.pass rfl rfl ?_
        | refine FW.go rfl ?_
        | refine CW.skip rfl rfl ?_
        | refine CW.step rfl rfl rfl rfl rfl ?_
        | ((first
          | (refine AWL.boxF (t := 36) rfl rfl rfl rfl rfl ?_)
          | (refine AWL.allocF (t := 36) rfl rfl rfl rfl rfl rfl ?_)
          | (refine CWr.allocF (t := 36) rfl rfl rfl ?_ ?_)
          | (refine AWL.op (sl := SL) rfl rfl ?_ ?_)
          | (refine FW.float rfl rfl rfl rfl rfl ?_)
          | (refine CWr.op rfl ?_ ?_ ?_)
          | (refine CWr.assign rfl ?_ ?_)
          | (refine CWr.alloc rfl rfl rfl rfl ?_)
          | (refine CWr.build rfl rfl rfl rfl ?_ rfl rfl rfl ?_)
          | ((show AWL _ _ ({ dst := _, op := _, type := _, pos := _, after := _, guard := none } :: _) _ _); refine AWL.frzA rfl rfl ?_)
          | (refine AWL.callV (f := 7) rfl rfl rfl rfl ?_ (Nat.le_of_ble_eq_true rfl) rfl (awake_ok) ?_; (focus kernel_rfl))
          | (refine AWL.call (f := 7) rfl rfl rfl ?_ rfl (Nat.le_of_ble_eq_true rfl) rfl (awake_ok) ?_; (focus kernel_rfl))
          | (refine CWr.call (f := 7) rfl ?_ rfl (awake_ok) (fun _ _ h => h) ?_ ?_ ?_; (focus kernel_rfl))
          | (refine AWL.callV (f := 9) rfl rfl rfl rfl ?_ (Nat.le_of_ble_eq_true rfl) rfl (h1) ?_; (focus kernel_rfl))
          | (refine AWL.call (f := 9) rfl rfl rfl ?_ rfl (Nat.le_of_ble_eq_true rfl) rfl (h1) ?_; (focus kernel_rfl))
          | (refine CWr.call (f := 9) rfl ?_ rfl (h1) (fun _ _ h => h) ?_ ?_ ?_; (focus kernel_rfl))
          | (refine AWL.callV (f := 12) rfl rfl rfl rfl ?_ (Nat.le_of_ble_eq_true rfl) rfl (arity_ok _) ?_; (focus kernel_rfl))
          | (refine AWL.call (f := 12) rfl rfl rfl ?_ rfl (Nat.le_of_ble_eq_true rfl) rfl (arity_ok _) ?_; (focus kernel_rfl))
          | (refine CWr.call (f := 12) rfl ?_ rfl (arity_ok _) (fun _ _ h => h) ?_ ?_ ?_; (focus kernel_rfl))
          | fail) <;> (try ((first | show AWL _ _ _ _ _ | show AW _ _ _ _ | show FW _ _ _ _ _ _ _ _ _ _ | show CW _ _ _ _ _ _ _ _ _ _ _ _ | (rintro _ _ ⟨rfl, rfl⟩; (try refine And.intro rfl ?_))); (try (conv => arg -1; simp (disch := omega) only [NSX, Nat.reduceBEq, Nat.reduceAdd, Nat.reduceMul, Int.reduceToNat, Nat.reduceSub, TY, List.set_cons_zero, List.set_cons_succ, sl27, sl25, sl36, sl3, sl4, sl5, sl9, nums_length, byts_V, byts_len, hn, hnd, hId, eq_self, decide_true, beq_self_eq_true])))))
        | ((first | refine AWL.guard2 rfl rfl rfl rfl rfl rfl ?_ ?_ | refine CW.guard2 rfl rfl rfl rfl rfl rfl rfl rfl ?_ ?_) <;> (intro hc; (try simp only [Bool.not_true, Bool.not_false] at hc); first | (cases hc; done) | ((try simp only [hc]); (try simp only [beq_iff_eq, bne_iff_ne, decide_eq_true_eq, decide_eq_false_iff_not, beq_eq_false_iff_ne, bne_eq_false_iff_eq, ne_eq, Bool.not_eq_true, Bool.not_eq_false, Bool.not_eq_eq_eq_not, Bool.not_true, Bool.not_false, Decidable.not_not, Int.not_lt, Int.not_le] at hc); (try (exfalso; omega)); (try (guard_hyp hc : True; clear hc)))) <;> (try (first | (with_reducible show AWL _ _ _ _ (St.put _ _ _)) | (with_reducible show CW _ _ _ _ _ _ _ _ _ _ _ (St.put _ _ _))); (try (conv => arg -1; simp (disch := omega) only [NSX, Nat.reduceBEq, Nat.reduceAdd, Nat.reduceMul, Int.reduceToNat, Nat.reduceSub, TY, List.set_cons_zero, List.set_cons_succ, sl27, sl25, sl36, sl3, sl4, sl5, sl9, nums_length, byts_V, byts_len, hn, hnd, hId, eq_self, decide_true, beq_self_eq_true]))))
        | (refine AWL.guard2 rfl rfl rfl rfl rfl rfl (fun hc => ?_) ?_; (cases hc; done))
        | ((first | ((show AW _ (.region _ _ true) _ _); refine AW.calm false [] [] hmix (by (repeat' (first | exact panOk_end | exact panOk_endM | refine panOk_then ?_ | refine panOk_block ?_ | refine QEq.pan (by assumption) ?_))) ?_ rfl ?_; (focus (as_aux_lemma => kernel_rfl))) | refine AWL.guardU rfl rfl rfl rfl rfl rfl ?_ | refine CW.guardU rfl rfl rfl rfl rfl rfl rfl rfl ?_); (try (conv => arg -1; simp (disch := omega) only [NSX, Nat.reduceBEq, Nat.reduceAdd, Nat.reduceMul, Int.reduceToNat, Nat.reduceSub, TY, List.set_cons_zero, List.set_cons_succ, sl27, sl25, sl36, sl3, sl4, sl5, sl9, nums_length, byts_V, byts_len, hn, hnd, hId, eq_self, decide_true, beq_self_eq_true])))
        | refine CW.tail rfl ?_
        | (refine AW.cond rfl (fun hc => ?_) (fun hc => ?_) <;> first | (cases hc; done) | ((try simp only [beq_iff_eq, bne_iff_ne, decide_eq_true_eq, decide_eq_false_iff_not, beq_eq_false_iff_ne, bne_eq_false_iff_eq, ne_eq, Bool.not_eq_true, Bool.not_eq_false, Bool.not_eq_eq_eq_not, Bool.not_true, Bool.not_false, Decidable.not_not, Int.not_lt, Int.not_le] at hc); (try (exfalso; omega)); (try (guard_hyp hc : True; clear hc))))
        | ((refine EndQ.mk rfl rfl rfl ?_ ?_ ?_; (focus (first | exact Or.inl rfl | exact Or.inr rfl))) <;> (try simp (disch := omega) only [NSX, Nat.reduceBEq, Nat.reduceAdd, Nat.reduceMul, Int.reduceToNat, Nat.reduceSub, TY, List.set_cons_zero, List.set_cons_succ, sl27, sl25, sl36, sl3, sl4, sl5, sl9, nums_length, byts_V, byts_len, hn, hnd, hId, eq_self, decide_true, beq_self_eq_true]))
        | (focus ((first | exact trivial | omega | (refine And.intro (by kernel_rfl) (And.intro ⟨_, (by first | exact nums_ints _ _ | rfl), (by first | exact nums_ints _ _ | rfl)⟩ (And.intro ?_ ?_)) <;> (first | rfl | assumption | (simp only [nums_length]; omega) | omega)) | (refine And.intro ?_ (And.intro ?_ ?_); (focus kernel_rfl); (focus kernel_rfl); (focus kernel_rfl)) | ((show newKs _ _ _ = true); kernel_rfl) | ((show FitV _ _ _ _ _ _); (repeat' (first | exact trivial | exact Or.inr (Or.inl rfl) | exact Or.inl rfl | exact Or.inr (Or.inr rfl) | refine And.intro ?_ ?_)); done) | assumption | ((first | refine ld_nums i3 _ _ ?_ | refine ld_nums i5 _ _ ?_ | refine at_nums i3 _ _ ?_ | refine at_nums i5 _ _ ?_); first | assumption | omega | (simp only [List.length_append]; omega)) | (show _ ≤ _; omega) | (simp only [List.length_take, List.length_drop, List.length_append, List.length_cons, List.length_nil]; omega) | ((repeat' (first | exact trivial | exact rfl | exact Nat.le_of_ble_eq_true rfl | refine And.intro ?_ ?_ | fail)); done) | ((try simp (disch := omega) only [NSX, Nat.reduceBEq, Nat.reduceAdd, Nat.reduceMul, Int.reduceToNat, Nat.reduceSub, TY, List.set_cons_zero, List.set_cons_succ, sl27, sl25, sl36, sl3, sl4, sl5, sl9, nums_length, byts_V, byts_len, hn, hnd, hId, eq_self, decide_true, beq_self_eq_true]); (repeat' (first | exact trivial | exact rfl | exact ⟨_, _, rfl⟩ | exact ⟨_, rfl⟩ | exact Nat.le_of_ble_eq_true rfl | exact Nat.zero_lt_succ _ | omega | (simp only [nums_length, byts_len] at *; omega) | refine And.intro ?_ ?_ | fail)); done)); done))
        | fail)
      all_goals first
        | exact ⟨trivial, trivial⟩
        | exact ⟨rfl, trivial⟩
        | (exfalso; exact hop ⟨by assumption, by assumption, by assumption, by assumption, by omega⟩)
        | (exfalso; omega)
        | trace_state
    · have hId : decide ((I.length : Int) > 0) = false := decide_eq_false (by omega)
      refine AC.enter Try.func6 rfl (Nat.le_of_ble_eq_true rfl) ?_
      simp only [Try.f6]
      have hchk : True := by simp only [TY, List.set_cons_zero, List.set_cons_succ, sl27, sl25, sl36, sl3, sl4, sl5, sl9, nums_length, byts_V, byts_len, hn, hnd, hId, eq_self, decide_true, beq_self_eq_true]
      repeat' (first
        | (refine AWL.opN (sl := SL) rfl rfl rfl trivial ?_; (try (conv => arg -1; simp (disch := omega) only [NSX, Nat.reduceBEq, Nat.reduceAdd, Nat.reduceMul, Int.reduceToNat, Nat.reduceSub, TY, List.set_cons_zero, List.set_cons_succ, sl27, sl25, sl36, sl3, sl4, sl5, sl9, nums_length, byts_V, byts_len, hn, hnd, hId, eq_self, decide_true, beq_self_eq_true])))
        | (refine AW.seqQ ?_; intro Qn hQn)
        | (refine AW.blockQ ?_; intro Qn hQn)
        | refine AW.region ?_
        | ((first | refine AW.skip ?_ | refine AW.ret ?_ | refine AW.exit ?_ | refine AWL.nil ?_ | refine CW.nil ?_); (repeat (first | refine QEq.mp (by assumption) ?_ | simp only [thenQ, Go.Abs.blockQ, ↓reduceIte, Nat.reduceEqDiff])))
        | refine FW.nil ?_
        | refine FW.pass rfl rfl ?_
        | refine FW.go rfl ?_
        | refine CW.skip rfl rfl ?_
        | refine CW.step rfl rfl rfl rfl rfl ?_
        | ((first
          | (refine AWL.boxF (t := 36) rfl rfl rfl rfl rfl ?_)
          | (refine AWL.allocF (t := 36) rfl rfl rfl rfl rfl rfl ?_)
          | (refine CWr.allocF (t := 36) rfl rfl rfl ?_ ?_)
          | (refine AWL.op (sl := SL) rfl rfl ?_ ?_)
          | (refine FW.float rfl rfl rfl rfl rfl ?_)
          | (refine CWr.op rfl ?_ ?_ ?_)
          | (refine CWr.assign rfl ?_ ?_)
          | (refine CWr.alloc rfl rfl rfl rfl ?_)
          | (refine CWr.build rfl rfl rfl rfl ?_ rfl rfl rfl ?_)
          | ((show AWL _ _ ({ dst := _, op := _, type := _, pos := _, after := _, guard := none } :: _) _ _); refine AWL.frzA rfl rfl ?_)
          | (refine AWL.callV (f := 7) rfl rfl rfl rfl ?_ (Nat.le_of_ble_eq_true rfl) rfl (awake_ok) ?_; (focus kernel_rfl))
          | (refine AWL.call (f := 7) rfl rfl rfl ?_ rfl (Nat.le_of_ble_eq_true rfl) rfl (awake_ok) ?_; (focus kernel_rfl))
          | (refine CWr.call (f := 7) rfl ?_ rfl (awake_ok) (fun _ _ h => h) ?_ ?_ ?_; (focus kernel_rfl))
          | (refine AWL.callV (f := 9) rfl rfl rfl rfl ?_ (Nat.le_of_ble_eq_true rfl) rfl (h1) ?_; (focus kernel_rfl))
          | (refine AWL.call (f := 9) rfl rfl rfl ?_ rfl (Nat.le_of_ble_eq_true rfl) rfl (h1) ?_; (focus kernel_rfl))
          | (refine CWr.call (f := 9) rfl ?_ rfl (h1) (fun _ _ h => h) ?_ ?_ ?_; (focus kernel_rfl))
          | (refine AWL.callV (f := 12) rfl rfl rfl rfl ?_ (Nat.le_of_ble_eq_true rfl) rfl (arity_ok _) ?_; (focus kernel_rfl))
          | (refine AWL.call (f := 12) rfl rfl rfl ?_ rfl (Nat.le_of_ble_eq_true rfl) rfl (arity_ok _) ?_; (focus kernel_rfl))
          | (refine CWr.call (f := 12) rfl ?_ rfl (arity_ok _) (fun _ _ h => h) ?_ ?_ ?_; (focus kernel_rfl))
          | fail) <;> (try ((first | show AWL _ _ _ _ _ | show AW _ _ _ _ | show FW _ _ _ _ _ _ _ _ _ _ | show CW _ _ _ _ _ _ _ _ _ _ _ _ | (rintro _ _ ⟨rfl, rfl⟩; (try refine And.intro rfl ?_))); (try (conv => arg -1; simp (disch := omega) only [NSX, Nat.reduceBEq, Nat.reduceAdd, Nat.reduceMul, Int.reduceToNat, Nat.reduceSub, TY, List.set_cons_zero, List.set_cons_succ, sl27, sl25, sl36, sl3, sl4, sl5, sl9, nums_length, byts_V, byts_len, hn, hnd, hId, eq_self, decide_true, beq_self_eq_true])))))
        | ((first | refine AWL.guard2 rfl rfl rfl rfl rfl rfl ?_ ?_ | refine CW.guard2 rfl rfl rfl rfl rfl rfl rfl rfl ?_ ?_) <;> (intro hc; (try simp only [Bool.not_true, Bool.not_false] at hc); first | (cases hc; done) | ((try simp only [hc]); (try simp only [beq_iff_eq, bne_iff_ne, decide_eq_true_eq, decide_eq_false_iff_not, beq_eq_false_iff_ne, bne_eq_false_iff_eq, ne_eq, Bool.not_eq_true, Bool.not_eq_false, Bool.not_eq_eq_eq_not, Bool.not_true, Bool.not_false, Decidable.not_not, Int.not_lt, Int.not_le] at hc); (try (exfalso; omega)); (try (guard_hyp hc : True; clear hc)))) <;> (try (first | (with_reducible show AWL _ _ _ _ (St.put _ _ _)) | (with_reducible show CW _ _ _ _ _ _ _ _ _ _ _ (St.put _ _ _))); (try (conv => arg -1; simp (disch := omega) only [NSX, Nat.reduceBEq, Nat.reduceAdd, Nat.reduceMul, Int.reduceToNat, Nat.reduceSub, TY, List.set_cons_zero, List.set_cons_succ, sl27, sl25, sl36, sl3, sl4, sl5, sl9, nums_length, byts_V, byts_len, hn, hnd, hId, eq_self, decide_true, beq_self_eq_true]))))
        | (refine AWL.guard2 rfl rfl rfl rfl rfl rfl (fun hc => ?_) ?_; (cases hc; done))
        | ((first | ((show AW _ (.region _ _ true) _ _); refine AW.calm false [] [] hmix (by (repeat' (first | exact panOk_end | exact panOk_endM | refine panOk_then ?_ | refine panOk_block ?_ | refine QEq.pan (by assumption) ?_))) ?_ rfl ?_; (focus (as_aux_lemma => kernel_rfl))) | refine AWL.guardU rfl rfl rfl rfl rfl rfl ?_ | refine CW.guardU rfl rfl rfl rfl rfl rfl rfl rfl ?_); (try (conv => arg -1; simp (disch := omega) only [NSX, Nat.reduceBEq, Nat.reduceAdd, Nat.reduceMul, Int.reduceToNat, Nat.reduceSub, TY, List.set_cons_zero, List.set_cons_succ, sl27, sl25, sl36, sl3, sl4, sl5, sl9, nums_length, byts_V, byts_len, hn, hnd, hId, eq_self, decide_true, beq_self_eq_true])))
        | refine CW.tail rfl ?_
        | (refine AW.cond rfl (fun hc => ?_) (fun hc => ?_) <;> first | (cases hc; done) | ((try simp only [beq_iff_eq, bne_iff_ne, decide_eq_true_eq, decide_eq_false_iff_not, beq_eq_false_iff_ne, bne_eq_false_iff_eq, ne_eq, Bool.not_eq_true, Bool.not_eq_false, Bool.not_eq_eq_eq_not, Bool.not_true, Bool.not_false, Decidable.not_not, Int.not_lt, Int.not_le] at hc); (try (exfalso; omega)); (try (guard_hyp hc : True; clear hc))))
        | ((refine EndQ.mk rfl rfl rfl ?_ ?_ ?_; (focus (first | exact Or.inl rfl | exact Or.inr rfl))) <;> (try simp (disch := omega) only [NSX, Nat.reduceBEq, Nat.reduceAdd, Nat.reduceMul, Int.reduceToNat, Nat.reduceSub, TY, List.set_cons_zero, List.set_cons_succ, sl27, sl25, sl36, sl3, sl4, sl5, sl9, nums_length, byts_V, byts_len, hn, hnd, hId, eq_self, decide_true, beq_self_eq_true]))
        | (focus ((first | exact trivial | omega | (refine And.intro (by kernel_rfl) (And.intro ⟨_, (by first | exact nums_ints _ _ | rfl), (by first | exact nums_ints _ _ | rfl)⟩ (And.intro ?_ ?_)) <;> (first | rfl | assumption | (simp only [nums_length]; omega) | omega)) | (refine And.intro ?_ (And.intro ?_ ?_); (focus kernel_rfl); (focus kernel_rfl); (focus kernel_rfl)) | ((show newKs _ _ _ = true); kernel_rfl) | ((show FitV _ _ _ _ _ _); (repeat' (first | exact trivial | exact Or.inr (Or.inl rfl) | exact Or.inl rfl | exact Or.inr (Or.inr rfl) | refine And.intro ?_ ?_)); done) | assumption | ((first | refine ld_nums i3 _ _ ?_ | refine ld_nums i5 _ _ ?_ | refine at_nums i3 _ _ ?_ | refine at_nums i5 _ _ ?_); first | assumption | omega | (simp only [List.length_append]; omega)) | (show _ ≤ _; omega) | (simp only [List.length_take, List.length_drop, List.length_append, List.length_cons, List.length_nil]; omega) | ((repeat' (first | exact trivial | exact rfl | exact Nat.le_of_ble_eq_true rfl | refine And.intro ?_ ?_ | fail)); done) | ((try simp (disch := omega) only [NSX, Nat.reduceBEq, Nat.reduceAdd, Nat.reduceMul, Int.reduceToNat, Nat.reduceSub, TY, List.set_cons_zero, List.set_cons_succ, sl27, sl25, sl36, sl3, sl4, sl5, sl9, nums_length, byts_V, byts_len, hn, hnd, hId, eq_self, decide_true, beq_self_eq_true]); (repeat' (first | exact trivial | exact rfl | exact ⟨_, _, rfl⟩ | exact ⟨_, rfl⟩ | exact Nat.le_of_ble_eq_true rfl | exact Nat.zero_lt_succ _ | omega | (simp only [nums_length, byts_len] at *; omega) | refine And.intro ?_ ?_ | fail)); done)); done))
        | fail)
      all_goals first
        | exact ⟨trivial, trivial⟩
        | exact ⟨rfl, trivial⟩
        | (exfalso; omega)
        | trace_state
end Go.Proofs.Ytmoalocogccnbaa
