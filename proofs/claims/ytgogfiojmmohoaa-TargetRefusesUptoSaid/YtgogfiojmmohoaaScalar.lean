/- target.Scalar. -/
import Derived.Test.YtgogfiojmmohoaaV5
import Derived.Test.YtgogfiojmmohoaaFixed
namespace Go.Proofs.Ytgogfiojmmohoaa
set_option linter.unusedSimpArgs false
set_option linter.unusedVariables false
open Go Go.Abs
attribute [local irreducible] AW AWL AC FW CW CWr IntKind.wrap

set_option maxHeartbeats 3200000 in
theorem scalar_ok (op : Int) : AC Try.prog 15 [.int .i64 op] (fun r m => r = .bool (scS op) ∧ m = []) := by
  have h1 := fixed_ok op
  unfold scS
  generalize fxS op = z at h1
  obtain ⟨a, b, c⟩ := z
  simp only at h1 ⊢
  refine AC.enter Try.func15 rfl (Nat.le_of_ble_eq_true rfl) ?_
  simp only [Try.f15]
  cases c
  all_goals
    have hchk : True := by simp only [TY, SLS, List.set_cons_zero, List.set_cons_succ, sl27, sl25, sl36, sl3, sl4, sl5, sl9, nums_length, byts_V, byts_len]
    repeat' (first
      | (refine AWL.opN (sl := SL) rfl rfl rfl trivial ?_; (try (conv => arg -1; simp (disch := omega) only [NSX, Nat.reduceBEq, Nat.reduceAdd, Nat.reduceMul, Int.reduceToNat, Nat.reduceSub, TY, SLS, List.set_cons_zero, List.set_cons_succ, sl27, sl25, sl36, sl3, sl4, sl5, sl9, nums_length, byts_V, byts_len])))
      | (refine AW.seqQ ?_; intro Qn hQn; (try have hPn := QEq.pan hQn (panOk_then (by (first | assumption | exact panOk_end | exact panOk_endM | exact panOk_then (by first | assumption | exact panOk_end | exact panOk_endM) | exact panOk_block (by first | assumption | exact panOk_end | exact panOk_endM))))))
      | (refine AW.blockQ ?_; intro Qn hQn; (try have hPn := QEq.pan hQn (panOk_block (by (first | assumption | exact panOk_end | exact panOk_endM | exact panOk_then (by first | assumption | exact panOk_end | exact panOk_endM) | exact panOk_block (by first | assumption | exact panOk_end | exact panOk_endM))))))
      | refine AW.region ?_
      | ((first | refine AW.skip ?_ | refine AW.ret ?_ | refine AW.exit ?_ | refine AWL.nil ?_ | refine CW.nil ?_); (repeat (first | refine QEq.mp (by assumption) ?_ | simp only [thenQ, Go.Abs.blockQ, ↓reduceIte, Nat.reduceEqDiff])))
      | refine FW.nil ?_
      | refine FW.pass rfl rfl ?_
      | refine FW.go rfl ?_
      | refine CW.skip rfl rfl ?_
      | refine CW.step rfl rfl rfl rfl rfl ?_
      | ((first
        | (refine AWL.boxF (t := 64) rfl rfl rfl rfl rfl ?_)
        | (refine AWL.allocF (t := 64) rfl rfl rfl rfl rfl rfl ?_)
        | (refine CWr.allocF (t := 64) rfl rfl rfl ?_ ?_)
        | (refine AWL.op (sl := SL) rfl rfl ?_ ?_)
        | (refine FW.float rfl rfl rfl rfl rfl ?_)
        | (refine CWr.op rfl ?_ ?_ ?_)
        | (refine CWr.assign rfl ?_ ?_)
        | (refine CWr.alloc rfl rfl rfl rfl ?_)
        | (refine CWr.build rfl rfl rfl rfl ?_ rfl rfl rfl ?_)
        | ((show AWL _ _ ({ dst := _, op := _, type := _, pos := _, after := _, guard := none } :: _) _ _); refine AWL.frzA rfl rfl ?_)
        | (refine AWL.callV (f := 23) rfl rfl rfl rfl ?_ (Nat.le_of_ble_eq_true rfl) rfl (h1) ?_; (focus kernel_rfl))
        | (refine AWL.call (f := 23) rfl rfl rfl ?_ rfl (Nat.le_of_ble_eq_true rfl) rfl (h1) ?_; (focus kernel_rfl))
        | (refine CWr.call (f := 23) rfl ?_ rfl (h1) (fun _ _ h => h) ?_ ?_ ?_; (focus kernel_rfl))
        | fail) <;> (try ((first | show AWL _ _ _ _ _ | show AW _ _ _ _ | show FW _ _ _ _ _ _ _ _ _ _ | show CW _ _ _ _ _ _ _ _ _ _ _ _ | (rintro _ _ ⟨rfl, rfl⟩; (try refine And.intro rfl ?_))); (try (conv => arg -1; simp (disch := omega) only [NSX, Nat.reduceBEq, Nat.reduceAdd, Nat.reduceMul, Int.reduceToNat, Nat.reduceSub, TY, SLS, List.set_cons_zero, List.set_cons_succ, sl27, sl25, sl36, sl3, sl4, sl5, sl9, nums_length, byts_V, byts_len])))))
      | ((first | refine AWL.guard2 rfl rfl rfl rfl rfl rfl ?_ ?_ | refine CW.guard2 rfl rfl rfl rfl rfl rfl rfl rfl ?_ ?_) <;> (intro hc; (try simp only [Bool.not_true, Bool.not_false] at hc); first | (cases hc; done) | ((try simp only [hc]); (try simp only [beq_iff_eq, bne_iff_ne, decide_eq_true_eq, decide_eq_false_iff_not, beq_eq_false_iff_ne, bne_eq_false_iff_eq, ne_eq, Bool.not_eq_true, Bool.not_eq_false, Bool.not_eq_eq_eq_not, Bool.not_true, Bool.not_false, Decidable.not_not, Int.not_lt, Int.not_le] at hc); (try (exfalso; omega)); (try (guard_hyp hc : True; clear hc)))) <;> (try (first | (with_reducible show AWL _ _ _ _ (St.put _ _ _)) | (with_reducible show CW _ _ _ _ _ _ _ _ _ _ _ (St.put _ _ _))); (try (conv => arg -1; simp (disch := omega) only [NSX, Nat.reduceBEq, Nat.reduceAdd, Nat.reduceMul, Int.reduceToNat, Nat.reduceSub, TY, SLS, List.set_cons_zero, List.set_cons_succ, sl27, sl25, sl36, sl3, sl4, sl5, sl9, nums_length, byts_V, byts_len]))))
      | (refine AWL.guard2 rfl rfl rfl rfl rfl rfl (fun hc => ?_) ?_; (cases hc; done))
      | ((first | ((show AW _ (.region _ _ true) _ _); refine AW.calm false [] [] hmix ?hpan ?hchkc rfl ?_; (case hchkc => (as_aux_lemma => kernel_rfl)); (case hpan => exact (by first | first | assumption | exact panOk_end | exact panOk_endM | exact panOk_then (by first | assumption | exact panOk_end | exact panOk_endM) | exact panOk_block (by first | assumption | exact panOk_end | exact panOk_endM) | (repeat' (first | exact panOk_end | exact panOk_endM | refine panOk_then ?_ | refine panOk_block ?_ | refine QEq.pan (by assumption) ?_))))) | refine AWL.guardU rfl rfl rfl rfl rfl rfl ?_ | refine CW.guardU rfl rfl rfl rfl rfl rfl rfl rfl ?_); (try (conv => arg -1; simp (disch := omega) only [NSX, Nat.reduceBEq, Nat.reduceAdd, Nat.reduceMul, Int.reduceToNat, Nat.reduceSub, TY, SLS, List.set_cons_zero, List.set_cons_succ, sl27, sl25, sl36, sl3, sl4, sl5, sl9, nums_length, byts_V, byts_len])))
      | refine CW.tail rfl ?_
      | (refine AW.cond rfl (fun hc => ?_) (fun hc => ?_) <;> first | (cases hc; done) | ((try simp only [beq_iff_eq, bne_iff_ne, decide_eq_true_eq, decide_eq_false_iff_not, beq_eq_false_iff_ne, bne_eq_false_iff_eq, ne_eq, Bool.not_eq_true, Bool.not_eq_false, Bool.not_eq_eq_eq_not, Bool.not_true, Bool.not_false, Decidable.not_not, Int.not_lt, Int.not_le] at hc); (try (exfalso; omega)); (try (guard_hyp hc : True; clear hc))))
      | ((refine EndQ.mk rfl rfl rfl ?_ ?_ ?_; (focus (first | exact Or.inl rfl | exact Or.inr rfl))) <;> (try simp (disch := omega) only [NSX, Nat.reduceBEq, Nat.reduceAdd, Nat.reduceMul, Int.reduceToNat, Nat.reduceSub, TY, SLS, List.set_cons_zero, List.set_cons_succ, sl27, sl25, sl36, sl3, sl4, sl5, sl9, nums_length, byts_V, byts_len]))
      | (focus ((first | exact trivial | omega | (refine And.intro (by kernel_rfl) (And.intro ⟨_, (by first | exact nums_ints _ _ | rfl), (by first | exact nums_ints _ _ | rfl)⟩ (And.intro ?_ ?_)) <;> (first | rfl | assumption | (simp only [nums_length]; omega) | omega)) | (refine And.intro ?_ (And.intro ?_ ?_); (focus kernel_rfl); (focus kernel_rfl); (focus kernel_rfl)) | ((show newKs _ _ _ = true); kernel_rfl) | ((show FitV _ _ _ _ _ _); (repeat' (first | exact trivial | exact Or.inr (Or.inl rfl) | exact Or.inl rfl | exact Or.inr (Or.inr rfl) | refine And.intro ?_ ?_)); done) | assumption | ((first | refine ld_nums i3 _ _ ?_ | refine ld_nums i5 _ _ ?_ | refine at_nums i3 _ _ ?_ | refine at_nums i5 _ _ ?_); first | assumption | omega | (simp only [List.length_append]; omega)) | (show _ ≤ _; omega) | (simp only [List.length_take, List.length_drop, List.length_append, List.length_cons, List.length_nil]; omega) | ((repeat' (first | exact trivial | exact rfl | exact Nat.le_of_ble_eq_true rfl | refine And.intro ?_ ?_ | fail)); done) | ((try simp (disch := omega) only [NSX, Nat.reduceBEq, Nat.reduceAdd, Nat.reduceMul, Int.reduceToNat, Nat.reduceSub, TY, SLS, List.set_cons_zero, List.set_cons_succ, sl27, sl25, sl36, sl3, sl4, sl5, sl9, nums_length, byts_V, byts_len]); (repeat' (first | exact trivial | exact rfl | exact ⟨_, _, rfl⟩ | exact ⟨_, rfl⟩ | exact Nat.le_of_ble_eq_true rfl | exact Nat.zero_lt_succ _ | omega | (simp only [nums_length, byts_len] at *; omega) | refine And.intro ?_ ?_ | fail)); done)); done))
      | fail)
  all_goals first
    | exact ⟨rfl, trivial⟩
    | (subst op; exact ⟨rfl, trivial⟩)
    | (have h15 : ¬ op = 15 := (by omega); have h16 : ¬ op = 16 := (by omega); have h17 : ¬ op = 17 := (by omega); simp only [h15, h16, h17, decide_false, Bool.false_or]; exact ⟨rfl, trivial⟩)
    | trace_state
end Go.Proofs.Ytgogfiojmmohoaa
