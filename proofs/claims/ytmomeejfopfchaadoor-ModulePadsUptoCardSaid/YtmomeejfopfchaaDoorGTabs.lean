/- Step lists. -/
import Derived.Test.YtmomeejfopfchaaDoorDP
import Derived.Test.YtmomeejfopfchaaDoorGTy
import Derived.Test.YtmomeejfopfchaaDoorV4
import Derived.Test.YtmomeejfopfchaaDoorCB
set_option linter.unusedSimpArgs false
set_option linter.unusedVariables false
namespace Go.Abs
open Go Go.RowKit
theorem ste4f5d7 {p : Prop} (h : p := by
  repeat' (first
    | ((with_reducible show AW _ _ _ _); first | ((first | refine AW.seqA ?_ | refine AW.blockA ?_); intro Qn hQn hPn))
    | ((with_reducible first | show AWL _ _ _ _ _ | show AW _ _ _ _); (first | refine AWL.nil ?_ | refine AW.skip ?_ | refine AW.ret ?_ | refine AW.exit ?_); (repeat (first | refine QEq.mp (by assumption) ?_ | simp only [thenQ, Go.Abs.blockQ, ↓reduceIte, Nat.reduceEqDiff])))
    | ((first
      | ((with_reducible show AWL _ _ _ _ _); first | refine AWL.opN (sl := SL) rfl rfl rfl trivial ?_ | (refine AWL.op (sl := SL) rfl rfl ?_ ?_) | (refine AWL.ptrNil rfl rfl rfl rfl rfl rfl (by kernel_rfl) ?_) | (refine AWL.sliceNil rfl rfl rfl rfl rfl (by kernel_rfl) ?_ ?_; (focus (first | exact trivial | exact numsZ)); (intro r hr; cases r <;> first | (have hr := hr rfl) | (clear hr))) | (refine AWL.convSame rfl rfl rfl rfl rfl rfl (List.cons_ne_nil _ _) (by decide) rfl rfl ?_) | (refine AWL.guard2 rfl rfl rfl rfl rfl rfl ?_ ?_ <;> (intro hc; (try simp only [Bool.not_true, Bool.not_false] at hc); first | (cases hc; done) | ((try simp only [hc]); (try simp only [HCX] at hc); (try (exfalso; omega)); (try (guard_hyp hc : True; clear hc))))) | refine AWL.guardU rfl rfl rfl rfl rfl rfl ?_ | refine' cl)
      | ((with_reducible show AW _ _ _ _); first | ((show AW _ (.region _ _ false) _ _); refine kp ?_; refine AW.region ?_))) <;> (try ((first | with_reducible (first | show AWL _ _ _ _ _ | show AW _ _ _ _ | show DQ _ _ _ _ _ _) | (rintro _ _ ⟨⟩; done) | (rintro _ _ ⟨rfl, rfl⟩; (try refine And.intro rfl ?_))); (try (conv => arg -1; simp (disch := omega) only [NM, Nat.reduceBEq, reduceAdd, reduceMul, Int.reduceToNat, reduceSub, List.set_cons_zero, List.set_cons_succ, nx])))))
    | ((with_reducible show AW _ _ _ _); first | (refine AW.cond rfl (fun hc => ?_) (fun hc => ?_) <;> first | (cases hc; done) | ((try simp only [HCX] at hc); (try (exfalso; omega)); (try (guard_hyp hc : True; clear hc)))))
    | ((with_reducible show True); exact trivial)
    | ((refine EndQ.mk rfl rfl rfl ?_ ?_ ?_; (focus (first | exact Or.inl rfl | exact Or.inr rfl))) <;> (try simp (disch := omega) only [NM, Nat.reduceBEq, reduceAdd, reduceMul, Int.reduceToNat, reduceSub, List.set_cons_zero, List.set_cons_succ, nx]))
    | (focus ((first | ((try simp (disch := omega) only [NM, Nat.reduceBEq, reduceAdd, reduceMul, Int.reduceToNat, reduceSub, List.set_cons_zero, List.set_cons_succ, nx]); (repeat' (first | exact trivial | exact rfl | exact Nat.le_of_ble_eq_true rfl | refine And.intro ?_ ?_ | fail)); done) | exact trivial | omega | assumption | ((first | refine ld_nums i3 _ _ ?_ | refine ld_nums i5 _ _ ?_ | refine at_nums i3 _ _ ?_ | refine at_nums i5 _ _ ?_); first | assumption | omega | (simp only [List.length_append]; omega)) | (show _ <= _; omega) | (simp only [List.length_take, List.length_drop, List.length_append, List.length_cons, List.length_nil]; omega) | ((repeat' (first | exact trivial | exact rfl | exact Nat.le_of_ble_eq_true rfl | refine And.intro ?_ ?_ | fail)); done) | ((try simp (disch := omega) only [NM, Nat.reduceBEq, reduceAdd, reduceMul, Int.reduceToNat, reduceSub, List.set_cons_zero, List.set_cons_succ, nx]); (repeat' (first | exact trivial | exact rfl | exact ⟨_, _, rfl⟩ | exact ⟨_, rfl⟩ | exact Nat.le_of_ble_eq_true rfl | exact Nat.zero_lt_succ _ | omega | (simp only [List.length_append]; omega) | (simp only [nums_length] at *; omega) | refine And.intro ?_ ?_ | fail)); done)); done))
    | fail)
  all_goals (try clear nx)
  all_goals (apply_rules (newGoals := .nonDependentOnly) only [dep])
  all_goals constructor) : p := h
theorem ste99da8 {p : Prop} (h : p := by
  repeat' (first
    | ((with_reducible show AW _ .ret _ _); refine' rt)
    | ((with_reducible show AW _ _ _ _); first | ((first | refine AW.seqA ?_ | refine AW.blockA ?_); intro Qn hQn hPn))
    | ((with_reducible show AWL _ _ _ _ _); refine AWL.lentD rfl rfl ?_; (try (conv => arg -1; simp (disch := omega) only [NM, Nat.reduceBEq, reduceAdd, reduceMul, Int.reduceToNat, reduceSub, List.set_cons_zero, List.set_cons_succ, nx])))
    | ((with_reducible first | show AWL _ _ _ _ _ | show AW _ _ _ _ | show DQ _ _ _ _ _ _); (first | refine AWL.nil ?_ | refine AW.skip ?_ | refine AW.ret ?_ | refine AW.exit ?_ | refine DQ.nil ?_); (repeat (first | refine QEq.mp (by assumption) ?_ | simp only [thenQ, Go.Abs.blockQ, ↓reduceIte, Nat.reduceEqDiff])))
    | ((first
      | ((with_reducible show AWL _ _ _ _ _); first | refine AWL.opN (sl := SL) rfl rfl rfl trivial ?_ | (refine AWL.op (sl := SL) rfl rfl ?_ ?_) | refine' cl)
      | ((with_reducible show DQ _ _ _ _ _ _); first | (refine DQ.op rfl rfl rfl rfl rfl ?_ ?_) | (refine DQ.step rfl rfl rfl rfl (QStep.assign rfl) ?_) | refine DQ.tail rfl ?_)
      | ((with_reducible show AW _ _ _ _); first | ((show AW _ (.region _ _ false) _ _); refine kp ?_; refine AW.region ?_) | ((show AW _ (.region _ _ true) _ _); refine kp ?_; refine AW.drawn true hmix ?_ ?_; (focus kernel_rfl)))
      | (first | (refine DQ.yes rfl ?_ ?_))) <;> (try ((first | with_reducible (first | show AWL _ _ _ _ _ | show AW _ _ _ _ | show DQ _ _ _ _ _ _) | (rintro _ _ ⟨⟩; done) | (rintro _ _ ⟨rfl, rfl⟩; (try refine And.intro (by kernel_rfl) ?_))); (try (conv => arg -1; simp (disch := omega) only [NM, Nat.reduceBEq, reduceAdd, reduceMul, Int.reduceToNat, reduceSub, List.set_cons_zero, List.set_cons_succ, nx])))))
    | ((with_reducible show AW _ _ _ _); first | (refine AW.cond rfl (fun hc => ?_) (fun hc => ?_) <;> first | (cases hc; done) | ((try simp only [HCX] at hc); (try (exfalso; omega)); (try (guard_hyp hc : True; clear hc)))))
    | ((with_reducible show True); exact trivial)
    | ((refine EndP.mk (EndM.mk [0] rfl rfl rfl rfl ?_ ?_ ?_ ?_); (focus (first | exact Or.inl rfl | exact Or.inr rfl)); (focus (repeat (first | exact List.forall_mem_nil _ | refine List.forall_mem_cons.2 ⟨rfl, ?_⟩)))) <;> (try simp (disch := omega) only [NM, Nat.reduceBEq, reduceAdd, reduceMul, Int.reduceToNat, reduceSub, List.set_cons_zero, List.set_cons_succ, nx]))
    | ((refine EndP.pan [0] rfl rfl (by repeat (first | exact List.forall_mem_nil _ | refine List.forall_mem_cons.2 ⟨rfl, ?_⟩)) ?_); (try simp (disch := omega) only [NM, Nat.reduceBEq, reduceAdd, reduceMul, Int.reduceToNat, reduceSub, List.set_cons_zero, List.set_cons_succ, nx]))
    | (refine QEq.mp (by assumption) ?_; (try simp only [thenQ, Go.Abs.blockQ, ↓reduceIte, Nat.reduceEqDiff]); (try (conv => arg -1; simp (disch := omega) only [NM, Nat.reduceBEq, reduceAdd, reduceMul, Int.reduceToNat, reduceSub, List.set_cons_zero, List.set_cons_succ, nx])))
    | exact sd
    | fail)
  all_goals (try clear nx)
  all_goals (apply_rules (newGoals := .nonDependentOnly) only [dep])
  all_goals constructor) : p := h
theorem stece490 {p : Prop} (h : p := by
  repeat' (first
    | ((with_reducible show CW _ _ _ _ _ _ _ _ _ _ _ _); first | refine CW.skip rfl rfl ?_ | refine CW.step rfl rfl rfl rfl rfl ?_)
    | ((with_reducible show FW _ _ _ _ _ _ _ _ _ _); first | refine FW.pass rfl rfl ?_ | refine FW.go rfl ?_ | refine FW.nil ?_)
    | ((with_reducible show AW _ _ _ _); first | ((first | refine AW.seqA ?_ | refine AW.blockA ?_); intro Qn hQn hPn))
    | ((with_reducible first | show AWL _ _ _ _ _ | show AW _ _ _ _ | show CW _ _ _ _ _ _ _ _ _ _ _ _); (first | refine AWL.nil ?_ | refine AW.skip ?_ | refine AW.ret ?_ | refine AW.exit ?_ | refine CW.nil ?_); (repeat (first | refine QEq.mp (by assumption) ?_ | simp only [thenQ, Go.Abs.blockQ, ↓reduceIte, Nat.reduceEqDiff])))
    | ((first
      | ((with_reducible show AWL _ _ _ _ _); first | refine AWL.opN (sl := SL) rfl rfl rfl trivial ?_ | (refine AWL.op (sl := SL) rfl rfl ?_ ?_) | (refine AWL.ptrNil rfl rfl rfl rfl rfl rfl (by kernel_rfl) ?_) | (refine AWL.sliceNil rfl rfl rfl rfl rfl (by kernel_rfl) ?_ ?_; (focus (first | exact trivial | exact numsZ)); (intro r hr; cases r <;> first | (have hr := hr rfl) | (clear hr))) | (refine AWL.guard2 rfl rfl rfl rfl rfl rfl ?_ ?_ <;> (intro hc; (try simp only [Bool.not_true, Bool.not_false] at hc); first | (cases hc; done) | ((try simp only [hc]); (try simp only [HCX] at hc); (try (exfalso; omega)); (try (guard_hyp hc : True; clear hc))))) | refine AWL.guardU rfl rfl rfl rfl rfl rfl ?_ | refine' cl)
      | ((with_reducible show CWr _ _ _ _ _ _ _ _ _ _ _ _ _ _); first | (refine CWr.op rfl ?_ ?_ ?_) | (refine CWr.call (f := 25) rfl ?_ rfl (hc1) (fun _ _ h => h) ?_ ?_ ?_; (focus kernel_rfl)) | (refine CWr.call (f := 24) rfl ?_ rfl (hs1) (fun _ _ h => h) ?_ ?_ ?_; (focus kernel_rfl)))
      | ((with_reducible show CW _ _ _ _ _ _ _ _ _ _ _ _); first | (refine CW.guard2 rfl rfl rfl rfl rfl rfl rfl rfl ?_ ?_ <;> (intro hc; (try simp only [Bool.not_true, Bool.not_false] at hc); first | (cases hc; done) | ((try simp only [hc]); (try simp only [HCX] at hc); (try (exfalso; omega)); (try (guard_hyp hc : True; clear hc))))) | refine CW.guardU rfl rfl rfl rfl rfl rfl rfl rfl ?_ | refine CW.tail rfl ?_)
      | ((with_reducible show FW _ _ _ _ _ _ _ _ _ _); first | (refine FW.float rfl rfl rfl rfl rfl ?_))
      | ((with_reducible show AW _ _ _ _); first | ((show AW _ (.region _ _ false) _ _); refine kp ?_; refine AW.region ?_) | ((show AW _ (.region _ _ true) _ _); refine kp ?_; refine AW.calm true [] [] hmix ?hpan ?hchkc rfl ?_; (case hchkc => (as_aux_lemma => kernel_rfl)); (case hpan => (first | assumption | exact panOk_end | exact panOk_endM | exact panOk_endP | exact panOk_then (by first | assumption | exact panOk_end | exact panOk_endM | exact panOk_endP) | exact panOk_block (by assumption)))))) <;> (try ((first | with_reducible (first | show AWL _ _ _ _ _ | show AW _ _ _ _ | show FW _ _ _ _ _ _ _ _ _ _ | show CW _ _ _ _ _ _ _ _ _ _ _ _) | (rintro _ _ ⟨⟩; done) | (rintro _ _ ⟨rfl, rfl⟩; (try refine And.intro rfl ?_))); (try (conv => arg -1; simp (disch := omega) only [NM, Nat.reduceBEq, reduceAdd, reduceMul, Int.reduceToNat, reduceSub, List.set_cons_zero, List.set_cons_succ, nx])))))
    | ((with_reducible show AW _ _ _ _); first | (refine AW.cond rfl (fun hc => ?_) (fun hc => ?_) <;> first | (cases hc; done) | ((try simp only [HCX] at hc); (try (exfalso; omega)); (try (guard_hyp hc : True; clear hc)))))
    | ((with_reducible show True); exact trivial) | ((with_reducible show FitV _ _ _ _ _ _); (repeat' (first | exact trivial | exact Or.inr (Or.inl rfl) | exact Or.inl rfl | exact Or.inr (Or.inr rfl) | refine And.intro ?_ ?_)); done) | ((with_reducible show newKs _ _ _ = true); kernel_rfl)
    | ((refine EndQ.mk rfl rfl rfl ?_ ?_ ?_; (focus (first | exact Or.inl rfl | exact Or.inr rfl))) <;> (try simp (disch := omega) only [NM, Nat.reduceBEq, reduceAdd, reduceMul, Int.reduceToNat, reduceSub, List.set_cons_zero, List.set_cons_succ, nx]))
    | exact sd
    | fail)
  all_goals (try clear nx)
  all_goals (apply_rules (newGoals := .nonDependentOnly) only [dep])
  all_goals constructor) : p := h
theorem stf11c47 {p : Prop} (h : p := by
  repeat' (first
    | ((with_reducible show AW _ _ _ _); first | ((first | refine AW.seqA ?_ | refine AW.blockA ?_); intro Qn hQn hPn))
    | ((with_reducible first | show AWL _ _ _ _ _ | show AW _ _ _ _); (first | refine AWL.nil ?_ | refine AW.skip ?_ | refine AW.ret ?_ | refine AW.exit ?_); (repeat (first | refine QEq.mp (by assumption) ?_ | simp only [thenQ, Go.Abs.blockQ, ↓reduceIte, Nat.reduceEqDiff])))
    | ((first
      | ((with_reducible show AWL _ _ _ _ _); first | refine AWL.opN (sl := SL) rfl rfl rfl trivial ?_ | (refine AWL.op (sl := SL) rfl rfl ?_ ?_) | (refine AWL.tassert1 rfl rfl rfl rfl rfl (by kernel_rfl) ?_) | (refine AWL.iNil rfl rfl rfl rfl rfl rfl ⟨by kernel_rfl, by kernel_rfl⟩ ?_))
      | ((with_reducible show AW _ _ _ _); first | ((show AW _ (.region _ _ false) _ _); refine kp ?_; refine AW.region ?_))) <;> (try ((first | with_reducible (first | show AWL _ _ _ _ _ | show AW _ _ _ _ | show DQ _ _ _ _ _ _) | (rintro _ _ ⟨⟩; done) | (rintro _ _ ⟨rfl, rfl⟩; (try refine And.intro rfl ?_))); (try (conv => arg -1; simp (disch := omega) only [NM, Nat.reduceBEq, reduceAdd, reduceMul, Int.reduceToNat, reduceSub, List.set_cons_zero, List.set_cons_succ, nx])))))
    | ((with_reducible show AW _ _ _ _); first | (refine AW.cond rfl (fun hc => ?_) (fun hc => ?_) <;> first | (cases hc; done) | ((try simp only [HCX] at hc); (try (exfalso; omega)); (try (guard_hyp hc : True; clear hc)))))
    | ((with_reducible show True); exact trivial)
    | ((refine EndM.mk [0, 1] rfl rfl rfl rfl ?_ ?_ ?_ ?_; (focus (first | exact Or.inl rfl | exact Or.inr rfl)); (focus (repeat (first | exact List.forall_mem_nil _ | refine List.forall_mem_cons.2 ⟨rfl, ?_⟩)))) <;> (try simp (disch := omega) only [NM, Nat.reduceBEq, reduceAdd, reduceMul, Int.reduceToNat, reduceSub, List.set_cons_zero, List.set_cons_succ, nx]))
    | exact sd
    | fail)
  all_goals (try clear nx)
  all_goals (apply_rules (newGoals := .nonDependentOnly) only [dep])
  all_goals constructor) : p := h
theorem stf5711c {p : Prop} (h : p := by
  repeat' (first
    | ((with_reducible show AW _ _ _ _); first | ((first | refine AW.seqA ?_ | refine AW.blockA ?_); intro Qn hQn hPn))
    | ((with_reducible show AWL _ _ _ _ _); refine AWL.lentD rfl rfl ?_; (try (conv => arg -1; simp (disch := omega) only [NM, Nat.reduceBEq, reduceAdd, reduceMul, Int.reduceToNat, reduceSub, List.set_cons_zero, List.set_cons_succ, nx])))
    | ((with_reducible first | show AWL _ _ _ _ _ | show AW _ _ _ _); (first | refine AWL.nil ?_ | refine AW.skip ?_ | refine AW.ret ?_ | refine AW.exit ?_); (repeat (first | refine QEq.mp (by assumption) ?_ | simp only [thenQ, Go.Abs.blockQ, ↓reduceIte, Nat.reduceEqDiff])))
    | ((first
      | ((with_reducible show AWL _ _ _ _ _); first | refine AWL.opN (sl := SL) rfl rfl rfl trivial ?_ | (refine AWL.op (sl := SL) rfl rfl ?_ ?_) | (refine AWL.ptrNil rfl rfl rfl rfl rfl rfl (by kernel_rfl) ?_) | (refine AWL.sliceNil rfl rfl rfl rfl rfl (by kernel_rfl) ?_ ?_; (focus (first | exact trivial | exact numsZ)); (intro r hr; cases r <;> first | (have hr := hr rfl) | (clear hr))) | (refine AWL.guard2 rfl rfl rfl rfl rfl rfl ?_ ?_ <;> (intro hc; (try simp only [Bool.not_true, Bool.not_false] at hc); first | (cases hc; done) | ((try simp only [hc]); (try simp only [HCX] at hc); (try (exfalso; omega)); (try (guard_hyp hc : True; clear hc))))) | refine AWL.guardU rfl rfl rfl rfl rfl rfl ?_ | refine' cl)
      | ((with_reducible show AW _ _ _ _); first | ((show AW _ (.region _ _ false) _ _); refine kp ?_; refine AW.region ?_))) <;> (try ((first | with_reducible (first | show AWL _ _ _ _ _ | show AW _ _ _ _ | show DQ _ _ _ _ _ _) | (rintro _ _ ⟨rfl, rfl⟩; (try refine And.intro (by kernel_rfl) ?_))); (try (conv => arg -1; simp (disch := omega) only [NM, Nat.reduceBEq, reduceAdd, reduceMul, Int.reduceToNat, reduceSub, List.set_cons_zero, List.set_cons_succ, nx])))))
    | ((with_reducible show AW _ _ _ _); first | (refine AW.cond rfl (fun hc => ?_) (fun hc => ?_) <;> first | (cases hc; done) | ((try simp only [HCX] at hc); (try (exfalso; omega)); (try (guard_hyp hc : True; clear hc)))))
    | ((with_reducible show True); exact trivial)
    | ((refine EndM.mk [0, 1002, 1, 2005] rfl rfl rfl rfl ?_ ?_ ?_ ?_; (focus (first | exact Or.inl rfl | exact Or.inr rfl)); (focus (repeat (first | exact List.forall_mem_nil _ | refine List.forall_mem_cons.2 ⟨rfl, ?_⟩)))) <;> (try simp (disch := omega) only [NM, Nat.reduceBEq, reduceAdd, reduceMul, Int.reduceToNat, reduceSub, List.set_cons_zero, List.set_cons_succ, nx]))
    | exact sd
    | fail)
  all_goals (try clear nx)
  all_goals (apply_rules (newGoals := .nonDependentOnly) only [dep])
  all_goals constructor) : p := h
theorem stf82fa5 {p : Prop} (h : p := by
  repeat' (first
    | (refine AWL.opN (sl := SL) rfl rfl rfl trivial ?_; (try (conv => arg -1; simp (disch := omega) only [NSX, Nat.reduceBEq, Nat.reduceAdd, Nat.reduceMul, Int.reduceToNat, Nat.reduceSub, TY, List.set_cons_zero, List.set_cons_succ, SLS, nums_length, byts_V, byts_len, O5, O11, nx])))
    | (refine AW.seqQ ?_; intro Qn hQn)
    | (refine AW.blockQ ?_; intro Qn hQn)
    | refine AW.region ?_
    | ((first | refine AW.skip ?_ | refine AW.ret ?_ | refine AW.exit ?_ | refine AWL.nil ?_ | refine CW.nil ?_); (repeat (first | refine QEq.mp (by assumption) ?_ | simp only [thenQ, Go.Abs.blockQ, ↓reduceIte, Nat.reduceEqDiff])))
    | refine FW.nil ?_
    | refine FW.pass rfl rfl ?_
    | refine FW.go rfl ?_
    | refine CW.skip rfl rfl ?_
    | refine CW.step rfl rfl rfl rfl rfl ?_
    | ((first
      | (refine AWL.boxF (t := 129) rfl rfl rfl rfl rfl ?_)
      | (refine AWL.allocF (t := 129) rfl rfl rfl rfl rfl rfl ?_)
      | (refine CWr.allocF (t := 129) rfl rfl rfl ?_ ?_)
      | (refine AWL.op (sl := SL) rfl rfl ?_ ?_)
      | (refine FW.float rfl rfl rfl rfl rfl ?_)
      | (refine CWr.op rfl ?_ ?_ ?_)
      | (refine CWr.assign rfl ?_ ?_)
      | (refine CWr.alloc rfl rfl rfl rfl ?_)
      | (refine CWr.build rfl rfl rfl rfl ?_ rfl rfl rfl ?_)
      | ((show AWL _ _ ({ dst := _, op := _, type := _, pos := _, after := _, guard := none } :: _) _ _); refine AWL.frzA rfl rfl ?_)
      | (refine AWL.callV (f := 66) rfl rfl rfl rfl ?_ (Nat.le_of_ble_eq_true rfl) rfl (scalars_ok) ?_; (focus kernel_rfl))
      | (refine AWL.call (f := 66) rfl rfl rfl ?_ rfl (Nat.le_of_ble_eq_true rfl) rfl (scalars_ok) ?_; (focus kernel_rfl))
      | (refine CWr.call (f := 66) rfl ?_ rfl (scalars_ok) (fun _ _ h => h) ?_ ?_ ?_; (focus kernel_rfl))
      | (refine AWL.callV (f := 67) rfl rfl rfl rfl ?_ (Nat.le_of_ble_eq_true rfl) rfl (vectors_ok) ?_; (focus kernel_rfl))
      | (refine AWL.call (f := 67) rfl rfl rfl ?_ rfl (Nat.le_of_ble_eq_true rfl) rfl (vectors_ok) ?_; (focus kernel_rfl))
      | (refine CWr.call (f := 67) rfl ?_ rfl (vectors_ok) (fun _ _ h => h) ?_ ?_ ?_; (focus kernel_rfl))
      | fail) <;> (try ((first | show AWL _ _ _ _ _ | show AW _ _ _ _ | show FW _ _ _ _ _ _ _ _ _ _ | show CW _ _ _ _ _ _ _ _ _ _ _ _ | (rintro _ _ ⟨rfl, rfl⟩; (try refine And.intro rfl ?_))); (try (conv => arg -1; simp (disch := omega) only [NSX, Nat.reduceBEq, Nat.reduceAdd, Nat.reduceMul, Int.reduceToNat, Nat.reduceSub, TY, List.set_cons_zero, List.set_cons_succ, SLS, nums_length, byts_V, byts_len, O5, O11, nx])))))
    | ((first | refine AWL.guard2 rfl rfl rfl rfl rfl rfl ?_ ?_ | refine CW.guard2 rfl rfl rfl rfl rfl rfl rfl rfl ?_ ?_) <;> (intro hc; (try simp only [Bool.not_true, Bool.not_false] at hc); first | (cases hc; done) | ((try simp only [hc]); (try simp only [beq_iff_eq, bne_iff_ne, decide_eq_true_eq, decide_eq_false_iff_not, beq_eq_false_iff_ne, bne_eq_false_iff_eq, ne_eq, Bool.not_eq_true, Bool.not_eq_false, Bool.not_eq_eq_eq_not, Bool.not_true, Bool.not_false, Decidable.not_not, Int.not_lt, Int.not_le] at hc); (try (exfalso; omega)); (try (guard_hyp hc : True; clear hc)))) <;> (try (first | (with_reducible show AWL _ _ _ _ (St.put _ _ _)) | (with_reducible show CW _ _ _ _ _ _ _ _ _ _ _ (St.put _ _ _))); (try (conv => arg -1; simp (disch := omega) only [NSX, Nat.reduceBEq, Nat.reduceAdd, Nat.reduceMul, Int.reduceToNat, Nat.reduceSub, TY, List.set_cons_zero, List.set_cons_succ, SLS, nums_length, byts_V, byts_len, O5, O11, nx]))))
    | (refine AWL.guard2 rfl rfl rfl rfl rfl rfl (fun hc => ?_) ?_; (cases hc; done))
    | ((first | ((show AW _ (.region _ _ true) _ _); refine AW.calm false [] [] hmix (by (repeat' (first | exact panOk_end | exact panOk_endM | refine panOk_then ?_ | refine panOk_block ?_ | refine QEq.pan (by assumption) ?_))) ?_ rfl ?_; (focus (as_aux_lemma => kernel_rfl))) | refine AWL.guardU rfl rfl rfl rfl rfl rfl ?_ | refine CW.guardU rfl rfl rfl rfl rfl rfl rfl rfl ?_); (try (conv => arg -1; simp (disch := omega) only [NSX, Nat.reduceBEq, Nat.reduceAdd, Nat.reduceMul, Int.reduceToNat, Nat.reduceSub, TY, List.set_cons_zero, List.set_cons_succ, SLS, nums_length, byts_V, byts_len, O5, O11, nx])))
    | refine CW.tail rfl ?_
    | (refine AW.cond rfl (fun hc => ?_) (fun hc => ?_) <;> first | (cases hc; done) | ((try simp only [beq_iff_eq, bne_iff_ne, decide_eq_true_eq, decide_eq_false_iff_not, beq_eq_false_iff_ne, bne_eq_false_iff_eq, ne_eq, Bool.not_eq_true, Bool.not_eq_false, Bool.not_eq_eq_eq_not, Bool.not_true, Bool.not_false, Decidable.not_not, Int.not_lt, Int.not_le] at hc); (try (exfalso; omega)); (try (guard_hyp hc : True; clear hc))))
    | ((refine EndQ.mk rfl rfl rfl ?_ ?_ ?_; (focus (first | exact Or.inl rfl | exact Or.inr rfl))) <;> (try simp (disch := omega) only [NSX, Nat.reduceBEq, Nat.reduceAdd, Nat.reduceMul, Int.reduceToNat, Nat.reduceSub, TY, List.set_cons_zero, List.set_cons_succ, SLS, nums_length, byts_V, byts_len, O5, O11, nx]))
    | exact sd
    | fail)
  all_goals (try clear nx)
  all_goals (apply_rules (newGoals := .nonDependentOnly) only [dep])
  all_goals constructor) : p := h
theorem stfd9c13 {p : Prop} (h : p := by
  repeat' (first
    | ((with_reducible show AW _ _ _ _); first | ((first | refine AW.seqA ?_ | refine AW.blockA ?_); intro Qn hQn hPn))
    | ((with_reducible show AWL _ _ _ _ _); refine AWL.lentD rfl rfl ?_; (try (conv => arg -1; simp (disch := omega) only [NM, Nat.reduceBEq, reduceAdd, reduceMul, Int.reduceToNat, reduceSub, List.set_cons_zero, List.set_cons_succ, nx])))
    | ((with_reducible first | show AWL _ _ _ _ _ | show AW _ _ _ _); (first | refine AWL.nil ?_ | refine AW.skip ?_ | refine AW.ret ?_ | refine AW.exit ?_); (repeat (first | refine QEq.mp (by assumption) ?_ | simp only [thenQ, Go.Abs.blockQ, ↓reduceIte, Nat.reduceEqDiff])))
    | ((first
      | ((with_reducible show AWL _ _ _ _ _); first | refine AWL.opN (sl := SL) rfl rfl rfl trivial ?_ | (refine AWL.op (sl := SL) rfl rfl ?_ ?_) | refine' cl)
      | ((with_reducible show AW _ _ _ _); first | ((show AW _ (.region _ _ false) _ _); refine kp ?_; refine AW.region ?_))) <;> (try ((first | with_reducible (first | show AWL _ _ _ _ _ | show AW _ _ _ _ | show DQ _ _ _ _ _ _) | (rintro _ _ ⟨⟩; done) | (rintro _ _ ⟨rfl, rfl⟩; (try refine And.intro (by kernel_rfl) ?_))); (try (conv => arg -1; simp (disch := omega) only [NM, Nat.reduceBEq, reduceAdd, reduceMul, Int.reduceToNat, reduceSub, List.set_cons_zero, List.set_cons_succ, nx])))))
    | ((with_reducible show AW _ _ _ _); first | (refine AW.cond rfl (fun hc => ?_) (fun hc => ?_) <;> first | (cases hc; done) | ((try simp only [HCX] at hc); (try (exfalso; omega)); (try (guard_hyp hc : True; clear hc)))))
    | ((with_reducible show True); exact trivial)
    | ((refine EndP.mk (EndM.mk [0] rfl rfl rfl rfl ?_ ?_ ?_ ?_); (focus (first | exact Or.inl rfl | exact Or.inr rfl)); (focus (repeat (first | exact List.forall_mem_nil _ | refine List.forall_mem_cons.2 ⟨rfl, ?_⟩)))) <;> (try simp (disch := omega) only [NM, Nat.reduceBEq, reduceAdd, reduceMul, Int.reduceToNat, reduceSub, List.set_cons_zero, List.set_cons_succ, nx]))
    | ((refine EndP.pan [0] rfl rfl (by repeat (first | exact List.forall_mem_nil _ | refine List.forall_mem_cons.2 ⟨rfl, ?_⟩)) ?_); (try simp (disch := omega) only [NM, Nat.reduceBEq, reduceAdd, reduceMul, Int.reduceToNat, reduceSub, List.set_cons_zero, List.set_cons_succ, nx]))
    | (refine QEq.mp (by assumption) ?_; (try simp only [thenQ, Go.Abs.blockQ, ↓reduceIte, Nat.reduceEqDiff]); (try (conv => arg -1; simp (disch := omega) only [NM, Nat.reduceBEq, reduceAdd, reduceMul, Int.reduceToNat, reduceSub, List.set_cons_zero, List.set_cons_succ, nx])))
    | exact sd
    | fail)
  all_goals (try clear nx)
  all_goals (apply_rules (newGoals := .nonDependentOnly) only [dep])
  all_goals constructor) : p := h
end Go.Abs
namespace Go.Proofs.YtmomeejfopfchaaDoor
open Go Go.Abs
theorem fits2 : Fits Tryd.prog (.int .i64) (.inl 2) := .int (by kernel_rfl)
theorem fits3 : Fits Tryd.prog (.int .i64) (.inl 3) := .int (by kernel_rfl)
theorem fits4 : Fits Tryd.prog (.bool) (.inl 4) := .bool (by kernel_rfl)
theorem fits5 : Fits Tryd.prog (.int .u8) (.inl 5) := .int (by kernel_rfl)
theorem fits9 : Fits Tryd.prog (.str) (.inl 9) := .str (by kernel_rfl)
theorem fits12 : Fits Tryd.prog (.int .u64) (.inl 12) := .int (by kernel_rfl)
theorem fits21 : Fits Tryd.prog (.int .i32) (.inl 21) := .int (by kernel_rfl)
theorem fits22 : Fits Tryd.prog (.sl (.int .u8)) (.inl 22) := .sl (by kernel_rfl : Go.Program.underlying Tryd.prog 22 = some (.slice 5)) (by kernel_rfl) fits5
theorem fits26 : Fits Tryd.prog (.sl (.int .i64)) (.inl 26) := .sl (by kernel_rfl : Go.Program.underlying Tryd.prog 26 = some (.slice 3)) (by kernel_rfl) fits3
theorem fits47 : Fits Tryd.prog (.pair (.sl (.int .i64)) (.sl (.int .i64))) (.inl 47) := .st Tryd.underlying47 (.cons (by kernel_rfl) (by kernel_rfl) fits26 (.one (by kernel_rfl) (by kernel_rfl) fits26))
theorem fits24 : Fits Tryd.prog (.sl (.pair (.sl (.int .i64)) (.sl (.int .i64)))) (.inl 24) := .sl (by kernel_rfl : Go.Program.underlying Tryd.prog 24 = some (.slice 47)) (by kernel_rfl) fits47
theorem fits73 : Fits Tryd.prog (.pair (.str) (.pair (.str) (.int .i64))) (.inl 73) := .st Tryd.underlying73 (.cons (by kernel_rfl) (by kernel_rfl) fits9 (.cons (by kernel_rfl) (by kernel_rfl) fits9 (.one (by kernel_rfl) (by kernel_rfl) fits3)))
theorem fits25 : Fits Tryd.prog (.sl (.pair (.str) (.pair (.str) (.int .i64)))) (.inl 25) := .sl (by kernel_rfl : Go.Program.underlying Tryd.prog 25 = some (.slice 73)) (by kernel_rfl) fits73
theorem fits89 : Fits Tryd.prog (.pair (.int .i64) (.int .i64)) (.inl 89) := .st Tryd.underlying89 (.cons (by kernel_rfl) (by kernel_rfl) fits3 (.one (by kernel_rfl) (by kernel_rfl) fits3))
theorem fits27 : Fits Tryd.prog (.sl (.pair (.int .i64) (.int .i64))) (.inl 27) := .sl (by kernel_rfl : Go.Program.underlying Tryd.prog 27 = some (.slice 89)) (by kernel_rfl) fits89
theorem fits51 : Fits Tryd.prog (.int .u64) (.inl 51) := .int (by kernel_rfl)
theorem fits53 : Fits Tryd.prog (.pair (.int .i64) (.pair (.int .i64) (.pair (.int .i64) (.pair (.int .u64) (.pair (.int .u64) (.sl (.int .i64))))))) (.inl 53) := .st Tryd.underlying53 (.cons (by kernel_rfl) (by kernel_rfl) fits3 (.cons (by kernel_rfl) (by kernel_rfl) fits3 (.cons (by kernel_rfl) (by kernel_rfl) fits3 (.cons (by kernel_rfl) (by kernel_rfl) fits51 (.cons (by kernel_rfl) (by kernel_rfl) fits51 (.one (by kernel_rfl) (by kernel_rfl) fits26))))))
theorem fits48 : Fits Tryd.prog (.sl (.pair (.int .i64) (.pair (.int .i64) (.pair (.int .i64) (.pair (.int .u64) (.pair (.int .u64) (.sl (.int .i64)))))))) (.inl 48) := .sl (by kernel_rfl : Go.Program.underlying Tryd.prog 48 = some (.slice 53)) (by kernel_rfl) fits53
theorem fits75 : Fits Tryd.prog (.pair (.int .i64) (.pair (.bool) (.sl (.pair (.int .i64) (.pair (.int .i64) (.pair (.int .i64) (.pair (.int .u64) (.pair (.int .u64) (.sl (.int .i64)))))))))) (.inl 75) := .st Tryd.underlying75 (.cons (by kernel_rfl) (by kernel_rfl) fits3 (.cons (by kernel_rfl) (by kernel_rfl) fits4 (.one (by kernel_rfl) (by kernel_rfl) fits48)))
theorem fits28 : Fits Tryd.prog (.sl (.pair (.int .i64) (.pair (.bool) (.sl (.pair (.int .i64) (.pair (.int .i64) (.pair (.int .i64) (.pair (.int .u64) (.pair (.int .u64) (.sl (.int .i64))))))))))) (.inl 28) := .sl (by kernel_rfl : Go.Program.underlying Tryd.prog 28 = some (.slice 75)) (by kernel_rfl) fits75
theorem fits78 : Fits Tryd.prog (.pair (.str) (.pair (.int .i64) (.int .i64))) (.inl 78) := .st Tryd.underlying78 (.cons (by kernel_rfl) (by kernel_rfl) fits9 (.cons (by kernel_rfl) (by kernel_rfl) fits3 (.one (by kernel_rfl) (by kernel_rfl) fits3)))
theorem fits29 : Fits Tryd.prog (.sl (.pair (.str) (.pair (.int .i64) (.int .i64)))) (.inl 29) := .sl (by kernel_rfl : Go.Program.underlying Tryd.prog 29 = some (.slice 78)) (by kernel_rfl) fits78
theorem fits98 : Fits Tryd.prog (.pair (.sl (.pair (.int .i64) (.pair (.int .i64) (.pair (.int .i64) (.pair (.int .u64) (.pair (.int .u64) (.sl (.int .i64)))))))) (.sl (.int .i64))) (.inl 98) := .st Tryd.underlying98 (.cons (by kernel_rfl) (by kernel_rfl) fits48 (.one (by kernel_rfl) (by kernel_rfl) fits26))
theorem fits30 : Fits Tryd.prog (.sl (.pair (.sl (.pair (.int .i64) (.pair (.int .i64) (.pair (.int .i64) (.pair (.int .u64) (.pair (.int .u64) (.sl (.int .i64)))))))) (.sl (.int .i64)))) (.inl 30) := .sl (by kernel_rfl : Go.Program.underlying Tryd.prog 30 = some (.slice 98)) (by kernel_rfl) fits98
theorem fits50 : Fits Tryd.prog (.pair (.sl (.int .i64)) (.sl (.pair (.int .i64) (.pair (.int .i64) (.pair (.int .i64) (.pair (.int .u64) (.pair (.int .u64) (.sl (.int .i64))))))))) (.inl 50) := .st Tryd.underlying50 (.cons (by kernel_rfl) (by kernel_rfl) fits26 (.one (by kernel_rfl) (by kernel_rfl) fits48))
theorem fits31 : Fits Tryd.prog (.sl (.pair (.sl (.int .i64)) (.sl (.pair (.int .i64) (.pair (.int .i64) (.pair (.int .i64) (.pair (.int .u64) (.pair (.int .u64) (.sl (.int .i64)))))))))) (.inl 31) := .sl (by kernel_rfl : Go.Program.underlying Tryd.prog 31 = some (.slice 50)) (by kernel_rfl) fits50
theorem fits55 : Fits Tryd.prog (.pair (.sl (.pair (.int .i64) (.pair (.int .i64) (.pair (.int .i64) (.pair (.int .u64) (.pair (.int .u64) (.sl (.int .i64)))))))) (.sl (.int .u8))) (.inl 55) := .st Tryd.underlying55 (.cons (by kernel_rfl) (by kernel_rfl) fits48 (.one (by kernel_rfl) (by kernel_rfl) fits22))
theorem fits32 : Fits Tryd.prog (.sl (.pair (.sl (.pair (.int .i64) (.pair (.int .i64) (.pair (.int .i64) (.pair (.int .u64) (.pair (.int .u64) (.sl (.int .i64)))))))) (.sl (.int .u8)))) (.inl 32) := .sl (by kernel_rfl : Go.Program.underlying Tryd.prog 32 = some (.slice 55)) (by kernel_rfl) fits55
theorem fits34 : Fits Tryd.prog (.pair (.sl (.pair (.sl (.int .i64)) (.sl (.int .i64)))) (.pair (.sl (.pair (.str) (.pair (.str) (.int .i64)))) (.pair (.sl (.int .i64)) (.pair (.sl (.pair (.int .i64) (.int .i64))) (.pair (.sl (.pair (.int .i64) (.int .i64))) (.pair (.sl (.pair (.int .i64) (.pair (.bool) (.sl (.pair (.int .i64) (.pair (.int .i64) (.pair (.int .i64) (.pair (.int .u64) (.pair (.int .u64) (.sl (.int .i64))))))))))) (.pair (.sl (.pair (.str) (.pair (.int .i64) (.int .i64)))) (.pair (.int .i64) (.pair (.sl (.pair (.sl (.pair (.int .i64) (.pair (.int .i64) (.pair (.int .i64) (.pair (.int .u64) (.pair (.int .u64) (.sl (.int .i64)))))))) (.sl (.int .i64)))) (.pair (.sl (.pair (.sl (.int .i64)) (.sl (.pair (.int .i64) (.pair (.int .i64) (.pair (.int .i64) (.pair (.int .u64) (.pair (.int .u64) (.sl (.int .i64)))))))))) (.sl (.pair (.sl (.pair (.int .i64) (.pair (.int .i64) (.pair (.int .i64) (.pair (.int .u64) (.pair (.int .u64) (.sl (.int .i64)))))))) (.sl (.int .u8)))))))))))))) (.inl 34) := .st Tryd.underlying34 (.cons (by kernel_rfl) (by kernel_rfl) fits24 (.cons (by kernel_rfl) (by kernel_rfl) fits25 (.cons (by kernel_rfl) (by kernel_rfl) fits26 (.cons (by kernel_rfl) (by kernel_rfl) fits27 (.cons (by kernel_rfl) (by kernel_rfl) fits27 (.cons (by kernel_rfl) (by kernel_rfl) fits28 (.cons (by kernel_rfl) (by kernel_rfl) fits29 (.cons (by kernel_rfl) (by kernel_rfl) fits3 (.cons (by kernel_rfl) (by kernel_rfl) fits30 (.cons (by kernel_rfl) (by kernel_rfl) fits31 (.one (by kernel_rfl) (by kernel_rfl) fits32)))))))))))
theorem fits35 : Fits Tryd.prog (.int .i64) (.inl 35) := .int (by kernel_rfl)
theorem fits40 : Fits Tryd.prog (.int .u64) (.inl 40) := .int (by kernel_rfl)
theorem fits56 : Fits Tryd.prog (.int .i64) (.inl 56) := .st Tryd.underlying56 (.one (by kernel_rfl) (by kernel_rfl) fits35)
theorem fits57 : Fits Tryd.prog (.int .i64) (.inl 57) := .st Tryd.underlying57 (.one (by kernel_rfl) (by kernel_rfl) fits35)
theorem fits60 : Fits Tryd.prog (.pair (.sl (.int .u8)) (.pair (.int .i64) (.int .i64))) (.inl 60) := .st Tryd.underlying60 (.cons (by kernel_rfl) (by kernel_rfl) fits22 (.cons (by kernel_rfl) (by kernel_rfl) fits3 (.one (by kernel_rfl) (by kernel_rfl) fits3)))
theorem fits61 : Fits Tryd.prog (.pair (.sl (.int .u8)) (.pair (.int .i64) (.int .i64))) (.inl 61) := .st Tryd.underlying61 (.cons (by kernel_rfl) (by kernel_rfl) fits22 (.cons (by kernel_rfl) (by kernel_rfl) fits3 (.one (by kernel_rfl) (by kernel_rfl) fits3)))
theorem fits115 : Fits Tryd.prog (.pair (.sl (.int .u8)) (.pair (.int .i64) (.pair (.sl (.int .i64)) (.int .i64)))) (.inl 115) := .st Tryd.underlying115 (.cons (by kernel_rfl) (by kernel_rfl) fits22 (.cons (by kernel_rfl) (by kernel_rfl) fits3 (.cons (by kernel_rfl) (by kernel_rfl) fits26 (.one (by kernel_rfl) (by kernel_rfl) fits35))))
theorem fits116 : Fits Tryd.prog (.pair (.sl (.int .u8)) (.pair (.int .i64) (.pair (.sl (.int .i64)) (.int .i64)))) (.inl 116) := .st Tryd.underlying116 (.cons (by kernel_rfl) (by kernel_rfl) fits22 (.cons (by kernel_rfl) (by kernel_rfl) fits3 (.cons (by kernel_rfl) (by kernel_rfl) fits26 (.one (by kernel_rfl) (by kernel_rfl) fits35))))
theorem fits120 : Fits Tryd.prog (.pair (.int .i64) (.pair (.int .i64) (.pair (.bool) (.pair (.sl (.int .i64)) (.sl (.int .i64)))))) (.inl 120) := .st Tryd.underlying120 (.cons (by kernel_rfl) (by kernel_rfl) fits3 (.cons (by kernel_rfl) (by kernel_rfl) fits3 (.cons (by kernel_rfl) (by kernel_rfl) fits4 (.cons (by kernel_rfl) (by kernel_rfl) fits26 (.one (by kernel_rfl) (by kernel_rfl) fits26)))))
theorem fits129 : Fits Tryd.prog (.pair (.int .i64) (.pair (.int .i64) (.pair (.int .i64) (.pair (.int .i64) (.str))))) (.inl 129) := .st Tryd.underlying129 (.cons (by kernel_rfl) (by kernel_rfl) fits3 (.cons (by kernel_rfl) (by kernel_rfl) fits3 (.cons (by kernel_rfl) (by kernel_rfl) fits3 (.cons (by kernel_rfl) (by kernel_rfl) fits3 (.one (by kernel_rfl) (by kernel_rfl) fits9)))))
theorem fits126 : Fits Tryd.prog (.sl (.pair (.int .i64) (.pair (.int .i64) (.pair (.int .i64) (.pair (.int .i64) (.str)))))) (.inl 126) := .sl (by kernel_rfl : Go.Program.underlying Tryd.prog 126 = some (.slice 129)) (by kernel_rfl) fits129
theorem fits128 : Fits Tryd.prog (.pair (.int .i64) (.pair (.int .i64) (.pair (.int .i64) (.pair (.int .i64) (.str))))) (.inl 128) := .st Tryd.underlying128 (.cons (by kernel_rfl) (by kernel_rfl) fits3 (.cons (by kernel_rfl) (by kernel_rfl) fits3 (.cons (by kernel_rfl) (by kernel_rfl) fits3 (.cons (by kernel_rfl) (by kernel_rfl) fits3 (.one (by kernel_rfl) (by kernel_rfl) fits9)))))
theorem fits130 : Fits Tryd.prog (.int .u32) (.inl 130) := .int (by kernel_rfl)
theorem fits133 : Fits Tryd.prog (.arr 16 (.int .u8)) (.inl 133) := .arr (by kernel_rfl : Go.Program.underlying Tryd.prog 133 = some (.array 16 5)) (by kernel_rfl) fits5
theorem fits135 : Fits Tryd.prog (.pair (.int .u64) (.int .u64)) (.inl 135) := .st Tryd.underlying135 (.cons (by kernel_rfl) (by kernel_rfl) fits51 (.one (by kernel_rfl) (by kernel_rfl) fits51))
theorem fits140 : Fits Tryd.prog (.int .i8) (.inl 140) := .int (by kernel_rfl)
end Go.Proofs.YtmomeejfopfchaaDoor
namespace Go.Proofs.YtmomeejfopfchaaDoor
set_option maxRecDepth 20000
open Go Go.Abs
def SL : TypeId -> List (Nat × Nat) := fun t => if t = 53 then [(5, 1)] else if t = 116 then [(2, 1)] else if t = 120 then [(3, 1), (4, 1)] else if t = 26 then [(0, 1)] else if t = 50 then [(0, 1)] else []
theorem SLS : SL 2 = [] /\ SL 3 = [] /\ SL 4 = [] /\ SL 5 = [] /\ SL 9 = [] /\ SL 12 = [] /\ SL 20 = [] /\ SL 22 = [] /\ SL 24 = [] /\ SL 25 = [] /\ SL 26 = [(0, 1)] /\ SL 27 = [] /\ SL 28 = [] /\ SL 29 = [] /\ SL 30 = [] /\ SL 31 = [] /\ SL 32 = [] /\ SL 34 = [] /\ SL 35 = [] /\ SL 40 = [] /\ SL 47 = [] /\ SL 48 = [] /\ SL 50 = [(0, 1)] /\ SL 51 = [] /\ SL 53 = [(5, 1)] /\ SL 55 = [] /\ SL 57 = [] /\ SL 59 = [] /\ SL 61 = [] /\ SL 73 = [] /\ SL 75 = [] /\ SL 78 = [] /\ SL 89 = [] /\ SL 98 = [] /\ SL 108 = [] /\ SL 114 = [] /\ SL 116 = [(2, 1)] /\ SL 120 = [(3, 1), (4, 1)] /\ SL 126 = [] /\ SL 129 = [] /\ SL 130 = [] /\ SL 133 = [] /\ SL 135 = [] /\ SL 140 = [] := ⟨rfl, rfl, rfl, rfl, rfl, rfl, rfl, rfl, rfl, rfl, rfl, rfl, rfl, rfl, rfl, rfl, rfl, rfl, rfl, rfl, rfl, rfl, rfl, rfl, rfl, rfl, rfl, rfl, rfl, rfl, rfl, rfl, rfl, rfl, rfl, rfl, rfl, rfl, rfl, rfl, rfl, rfl, rfl, rfl⟩
theorem hmix : Tryd.prog.follows .mixedOrders = true := by kernel_rfl
abbrev Row := Int × Int × Int × Int × List UInt8
def scalarsR : List Row := [(0, 0, 1, 0, []), (1, 1, 1, 0, [58]), (2, 4, 2, 0, []), (5, 5, 1, 0, []), (11, 11, 1, 0, []), (12, 13, 3, 0, []), (14, 14, 4, 0, []), (15, 15, 1, 0, []), (16, 16, 5, 0, []), (17, 17, 6, 0, []), (26, 27, 1, 0, []), (32, 36, 5, 0, []), (40, 40, 7, 2, [105, 58, 105]), (41, 41, 7, 3, [105, 58, 108]), (44, 45, 7, 0, [105, 58, 105]), (46, 47, 7, 1, [105, 58, 105]), (48, 49, 7, 0, [105, 58, 108]), (50, 51, 7, 1, [105, 58, 108]), (52, 53, 7, 2, [105, 58, 108]), (54, 54, 7, 2, [105, 105, 58]), (55, 55, 7, 3, [105, 108, 58]), (58, 58, 7, 0, [105, 105, 58]), (59, 59, 7, 1, [105, 105, 58]), (60, 60, 7, 0, [105, 108, 58]), (61, 61, 7, 1, [105, 108, 58]), (62, 62, 7, 2, [105, 108, 58]), (63, 63, 14, 0, [58, 105]), (64, 64, 14, 0, [105, 58, 105]), (65, 65, 9, 0, [58, 105]), (66, 66, 10, 0, [58, 108]), (69, 69, 1, 0, [105, 58, 105]), (70, 79, 1, 0, [105, 105, 58, 105]), (80, 80, 1, 0, [108, 58, 105]), (81, 90, 1, 0, [108, 108, 58, 105]), (103, 105, 1, 0, [105, 58, 105]), (106, 120, 1, 0, [105, 105, 58, 105]), (121, 123, 1, 0, [108, 58, 108]), (124, 138, 1, 0, [108, 108, 58, 108]), (167, 167, 1, 0, [108, 58, 105]), (172, 173, 1, 0, [105, 58, 108]), (192, 193, 1, 0, [105, 58, 105]), (194, 196, 1, 0, [108, 58, 108])]
def vectorsR : List Row := [(64768, 64768, 7, 4, [105, 58, 118]), (64769, 64774, 7, 3, [105, 58, 118]), (64775, 64775, 7, 0, [105, 58, 118]), (64776, 64776, 7, 1, [105, 58, 118]), (64777, 64777, 7, 2, [105, 58, 118]), (64778, 64778, 7, 3, [105, 58, 118]), (64779, 64779, 7, 4, [105, 118, 58]), (64780, 64780, 11, 0, [58, 118]), (64781, 64781, 12, 0, [118, 118, 58, 118]), (64782, 64782, 1, 0, [118, 118, 58, 118]), (64783, 64785, 1, 0, [105, 58, 118]), (64786, 64786, 1, 0, [108, 58, 118]), (64789, 64790, 13, 16, [118, 58, 105]), (64791, 64791, 13, 16, [118, 105, 58, 118]), (64792, 64793, 13, 8, [118, 58, 105]), (64794, 64794, 13, 8, [118, 105, 58, 118]), (64795, 64795, 13, 4, [118, 58, 105]), (64796, 64796, 13, 4, [118, 105, 58, 118]), (64797, 64797, 13, 2, [118, 58, 108]), (64798, 64798, 13, 2, [118, 108, 58, 118]), (64803, 64832, 1, 0, [118, 118, 58, 118]), (64845, 64845, 1, 0, [118, 58, 118]), (64846, 64849, 1, 0, [118, 118, 58, 118]), (64850, 64850, 1, 0, [118, 118, 118, 58, 118]), (64851, 64851, 1, 0, [118, 58, 105]), (64852, 64852, 8, 0, [105, 118, 58, 118]), (64853, 64853, 8, 1, [105, 118, 58, 118]), (64854, 64854, 8, 2, [105, 118, 58, 118]), (64855, 64855, 8, 3, [105, 118, 58, 118]), (64856, 64856, 8, 0, [105, 118, 58]), (64857, 64857, 8, 1, [105, 118, 58]), (64858, 64858, 8, 2, [105, 118, 58]), (64859, 64859, 8, 3, [105, 118, 58]), (64860, 64860, 7, 2, [105, 58, 118]), (64861, 64861, 7, 3, [105, 58, 118]), (64864, 64866, 1, 0, [118, 58, 118]), (64867, 64868, 1, 0, [118, 58, 105]), (64869, 64870, 1, 0, [118, 118, 58, 118]), (64875, 64877, 1, 0, [118, 105, 58, 118]), (64878, 64883, 1, 0, [118, 118, 58, 118]), (64886, 64889, 1, 0, [118, 118, 58, 118]), (64891, 64891, 1, 0, [118, 118, 58, 118]), (64892, 64897, 1, 0, [118, 58, 118]), (64898, 64898, 1, 0, [118, 118, 58, 118]), (64899, 64900, 1, 0, [118, 58, 105]), (64901, 64902, 1, 0, [118, 118, 58, 118]), (64903, 64906, 1, 0, [118, 58, 118]), (64907, 64909, 1, 0, [118, 105, 58, 118]), (64910, 64915, 1, 0, [118, 118, 58, 118]), (64917, 64921, 1, 0, [118, 118, 58, 118]), (64923, 64927, 1, 0, [118, 118, 58, 118]), (64928, 64929, 1, 0, [118, 58, 118]), (64931, 64932, 1, 0, [118, 58, 105]), (64935, 64938, 1, 0, [118, 58, 118]), (64939, 64941, 1, 0, [118, 105, 58, 118]), (64942, 64942, 1, 0, [118, 118, 58, 118]), (64945, 64945, 1, 0, [118, 118, 58, 118]), (64949, 64954, 1, 0, [118, 118, 58, 118]), (64956, 64959, 1, 0, [118, 118, 58, 118]), (64960, 64961, 1, 0, [118, 58, 118]), (64963, 64964, 1, 0, [118, 58, 105]), (64967, 64970, 1, 0, [118, 58, 118]), (64971, 64973, 1, 0, [118, 105, 58, 118]), (64974, 64974, 1, 0, [118, 118, 58, 118]), (64977, 64977, 1, 0, [118, 118, 58, 118]), (64981, 64991, 1, 0, [118, 118, 58, 118])]
def allR : List Row := scalarsR ++ vectorsR
def row1 (r : Row) : List V := [.int .i64 r.1, .int .i64 r.2.1, .int .i64 r.2.2.1, .int .i64 r.2.2.2.1, .str r.2.2.2.2]
def rowC : List Row -> List V
  | [] => []
  | r :: l => row1 r ++ rowC l
def nRow : Row := (0, 0, 0, 0, [])
theorem rowC_len (l : List Row) : (rowC l).length = l.length * 5 := by
  induction l with
  | nil => rfl
  | cons x l ih => rw [rowC, List.length_append, ih, List.length_cons]; show 5 + _ = _; omega
theorem rowC_drop {l : List Row} {k : Nat} (hk : k < l.length) : (rowC l).drop (k * 5) = row1 (l.getD k nRow) ++ rowC (l.drop (k + 1)) := by
  induction l generalizing k with
  | nil => exact absurd hk (Nat.not_lt_zero _)
  | cons x l ih =>
    cases k with
    | zero => simp [rowC]
    | succ k =>
      rw [rowC, show (k + 1) * 5 = (row1 x).length + k * 5 from by show _ = 5 + _; omega, List.drop_append, List.drop_of_length_le (by omega), List.nil_append, Nat.add_sub_cancel_left, ih (by simpa using hk)]
      simp
theorem row_load {l : List Row} {k : Nat} (hk : k < l.length) : List.take 5 (List.drop (k * 5) (rowC l)) = row1 (l.getD k nRow) := by
  rw [rowC_drop hk]; rfl
theorem row_room {l : List Row} {k : Nat} (hk : k < l.length) : 5 <= (List.drop (k * 5) (rowC l)).length := by
  rw [rowC_drop hk, List.length_append]; show 5 <= 5 + _; omega
def findR (op : Int) : List Row -> Option Row
  | [] => none
  | r :: l => if op < r.1 \/ op > r.2.1 then findR op l else some r
theorem findR_app (op : Int) (a b : List Row) : findR op (a ++ b) = (findR op a).or (findR op b) := by
  induction a with
  | nil => rfl
  | cons r a ih =>
    rw [List.cons_append, findR, findR]; split
    · exact ih
    · rfl
theorem findR_out (op : Int) {a : List Row} (h : ∀ r ∈ a, op < r.1 \/ op > r.2.1) : findR op a = none := by
  induction a with
  | nil => rfl
  | cons r a ih => rw [findR, if_pos (h r (List.mem_cons_self ..)), ih (fun x hx => h x (List.mem_cons_of_mem _ hx))]
theorem findR_at {op : Int} {l : List Row} {k : Nat} (hk : k < l.length) (h : ∀ j, j < k -> op < (l.getD j nRow).1 \/ op > (l.getD j nRow).2.1) (h2 : ¬ (op < (l.getD k nRow).1 \/ op > (l.getD k nRow).2.1)) : findR op l = some (l.getD k nRow) := by
  induction l generalizing k with
  | nil => exact absurd hk (Nat.not_lt_zero _)
  | cons r l ih =>
    cases k with
    | zero =>
      have h2 : ¬ (op < r.1 \/ op > r.2.1) := h2
      rw [findR, if_neg h2]; rfl
    | succ k =>
      have h0 : op < r.1 \/ op > r.2.1 := h 0 (Nat.succ_pos _)
      rw [findR, if_pos h0]
      exact ih (by simpa using hk) (fun j hj => h (j + 1) (by omega)) h2
theorem findR_none {op : Int} {l : List Row} (h : ∀ j, j < l.length -> op < (l.getD j nRow).1 \/ op > (l.getD j nRow).2.1) : findR op l = none := by
  apply findR_out
  intro r hr
  obtain ⟨j, hj, rfl⟩ := List.mem_iff_getElem.1 hr
  have := h j hj
  rw [show l.getD j nRow = l[j] from by simp [List.getD, hj]] at this
  exact this
def tyOf (c : Int) : Int := if c = 108 then 126 else if c = 118 then 123 else 127
def byts (s : List UInt8) : List Int := s.map fun c => (c.toNat : Int)
theorem byts_len (s : List UInt8) : (byts s).length = s.length := by simp [byts]
theorem byts_V (s : List UInt8) : s.map byteV = nums .u8 (byts s) := by simp [byts, nums, byteV]
theorem byts_at (s : List UInt8) (k : Nat) : (byts s).getD k 0 = ((s.getD k 0).toNat : Int) := by
  simp only [byts, List.getD_eq_getElem?_getD, List.getElem?_map]
  cases s[k]? <;> rfl
abbrev SigS := Bool × List Int × List Int
def sig1 (s : SigS) (c : Int) : SigS := if c = 58 then (true, s.2.1, s.2.2) else if s.1 = true then (true, s.2.1, s.2.2 ++ [tyOf c]) else (false, s.2.1 ++ [tyOf c], s.2.2)
def sigS (l : List Int) : SigS := l.foldl sig1 (false, [], [])
theorem sigS_snoc (l : List Int) (c : Int) : sigS (l ++ [c]) = sig1 (sigS l) c := by unfold sigS; rw [List.foldl_append]; rfl
theorem take_succ_getD {l : List Int} {k : Nat} (h : k < l.length) : l.take (k + 1) = l.take k ++ [l.getD k 0] := by
  rw [List.take_succ_eq_append_getElem h]; simp [List.getD, h]
theorem sigS_len (l : List Int) : (sigS l).2.1.length + (sigS l).2.2.length <= l.length := by
  have : ∀ k, k <= l.length -> (sigS (l.take k)).2.1.length + (sigS (l.take k)).2.2.length <= k := by
    intro k
    induction k with
    | zero => intro _; simp [sigS]
    | succ k ih =>
      intro hk
      have := ih (by omega)
      rw [take_succ_getD hk, sigS_snoc]
      generalize sigS (l.take k) = z at this
      obtain ⟨o, a, b⟩ := z
      simp only at this
      unfold sig1
      split
      · show a.length + b.length <= k + 1; omega
      · split
        · show a.length + (b ++ [_]).length <= k + 1
          simp only [List.length_append, List.length_cons, List.length_nil]; omega
        · show (a ++ [_]).length + b.length <= k + 1
          simp only [List.length_append, List.length_cons, List.length_nil]; omega
  have h := this l.length (Nat.le_refl _)
  rw [List.take_length] at h; exact h
abbrev InfoS := Int × Int × Bool × List Int × List Int
def infoOf (r : Row) : InfoS := (r.2.2.1, r.2.2.2.1, !r.2.2.2.2.isEmpty, (sigS (byts r.2.2.2.2)).2.1, (sigS (byts r.2.2.2.2)).2.2)
def partR (op : Int) : List Row := if op >= 64768 then vectorsR else scalarsR
theorem part_all (op : Int) : findR op (partR op) = findR op allR := by
  unfold partR allR
  rw [findR_app]
  split
  · rename_i h
    have hs : scalarsR.all (fun r => decide (r.2.1 < 64768)) = true := by decide +kernel
    rw [findR_out op (a := scalarsR)]
    · rfl
    · intro r hr
      have := of_decide_eq_true (List.all_eq_true.1 hs r hr)
      omega
  · rename_i h
    have hv : vectorsR.all (fun r => decide (r.1 >= 64768)) = true := by decide +kernel
    rw [findR_out op (a := vectorsR)]
    · cases findR op scalarsR <;> rfl
    · intro r hr
      have := of_decide_eq_true (List.all_eq_true.1 hv r hr)
      omega
def infoV (i : InfoS) : V := .agg [.int .i64 i.1, .int .i64 i.2.1, .bool i.2.2.1, .ref 3003 0 i.2.2.2.1.length 1, .ref 3004 0 i.2.2.2.2.length 1]
def noInfo : InfoS := (0, 0, false, [], [])
def ofS (op : Int) : InfoS × Bool := match findR op allR with
  | some r => (infoOf r, true)
  | none => (noInfo, false)
end Go.Proofs.YtmomeejfopfchaaDoor
namespace Go.Proofs.YtmomeejfopfchaaDoor
set_option maxRecDepth 20000
open Go Go.Abs
def uRd (bits : Int) : List Int -> Nat -> Int -> Int -> Int × Int × Int
  | [], _, _, _ => (0, 0, 5)
  | x :: l, done, n, at_ =>
    if (bits - done < 7 /\ (x % 128) / 2 ^ (bits - done).toNat ≠ 0) \/ (bits - done <= 7 /\ x >= 128) then (0, 0, 6)
    else if x < 128 then (n + x % 128 * 2 ^ done, at_ + 1, 0) else uRd bits l (done + 7) (n + x % 128 * 2 ^ done) (at_ + 1)
def uSpec (xs : List Int) (at_ bits : Int) : Int × Int × Int :=
  if bits < 1 \/ bits > 64 \/ at_ < 0 \/ at_ > xs.length then (0, 0, 1) else uRd bits (xs.drop at_.toNat) 0 0 at_
def sx (x : Int) : Int := if x % 128 >= 64 then x % 128 - 128 else x % 128
def sext (m : Nat) (v : Int) : Int := if v < 2 ^ (m - 1) then v else v - 2 ^ m
def sRd (bits : Int) : List Int -> Nat -> Int -> Int -> Int × Int × Int
  | [], _, _, _ => (0, 0, 5)
  | x :: l, done, n, at_ =>
    if bits - done <= 7 /\ ((sx x / 2 ^ (bits - done - 1).toNat ≠ 0 /\ sx x / 2 ^ (bits - done - 1).toNat ≠ -1) \/ x >= 128) then (0, 0, 6)
    else if x < 128 then (sext (done + 7) (n + x % 128 * 2 ^ done), at_ + 1, 0) else sRd bits l (done + 7) (n + x % 128 * 2 ^ done) (at_ + 1)
def sSpec (xs : List Int) (at_ bits : Int) : Int × Int × Int :=
  if bits < 1 \/ bits > 64 \/ at_ < 0 \/ at_ > xs.length then (0, 0, 1) else sRd bits (xs.drop at_.toNat) 0 0 at_
def byte (x : Int) : Prop := 0 <= x /\ x <= 255
def bytes (l : List Int) : Prop := ∀ x ∈ l, byte x
theorem pow_lt_mul {v low : Int} {s m : Nat} (hv0 : 0 <= v) (hv : v < 2 ^ s) (hl0 : 0 <= low) (hl : low < 2 ^ m) : 0 <= v + low * 2 ^ s /\ v + low * 2 ^ s < 2 ^ (s + m) := by
  have hp : (0 : Int) < 2 ^ s := Int.pow_pos (by decide)
  have h1 : 0 <= low * 2 ^ s := Int.mul_nonneg hl0 (by omega)
  have h2 : (low + 1) * 2 ^ s <= 2 ^ m * 2 ^ s := Int.mul_le_mul_of_nonneg_right (by omega) (by omega)
  rw [Int.add_mul, Int.one_mul] at h2
  rw [Int.pow_add, Int.mul_comm (2 ^ s)]
  omega
theorem low_lt {bits : Int} {k : Nat} {low : Int} (hkb : 7 * (k : Int) < bits) (h0 : 0 <= low) (h1 : low < 128) (hl : bits - 7 * k < 7 -> low / 2 ^ (bits - 7 * k).toNat = 0) : low < 2 ^ (min 7 (bits - 7 * k).toNat) := by
  by_cases h : bits - 7 * k < 7
  · have := hl h
    rw [Nat.min_eq_right (by omega)]
    have hp : (0 : Int) < 2 ^ (bits - 7 * k).toNat := Int.pow_pos (by decide)
    have h2 := Int.lt_ediv_add_one_mul_self low hp
    rw [this] at h2
    omega
  · rw [Nat.min_eq_left (by omega)]; exact h1
theorem step_or {bits : Int} {k : Nat} {v low : Int} (hb : bits <= 64) (hkb : 7 * (k : Int) < bits) (hv0 : 0 <= v) (hv : v < 2 ^ (7 * k)) (h0 : 0 <= low) (h1 : low < 128) (hl : bits - 7 * k < 7 -> low / 2 ^ (bits - 7 * k).toNat = 0) :
    bitsOp .or .u64 v (IntKind.u64.wrap (low * 2 ^ (7 * k))) = v + low * 2 ^ (7 * k) /\ 0 <= v + low * 2 ^ (7 * k) /\ v + low * 2 ^ (7 * k) < 2 ^ (7 * k + 7) := by
  have hlt := low_lt hkb h0 h1 hl
  have h2 := pow_lt_mul hv0 hv h0 hlt
  have hp : (0 : Int) < 2 ^ (7 * k) := Int.pow_pos (by decide)
  have hn : 0 <= low * 2 ^ (7 * k) := Int.mul_nonneg h0 (by omega)
  have h3 : (2 : Int) ^ (7 * k + min 7 (bits - 7 * k).toNat) <= 2 ^ 64 := by exact_mod_cast Nat.pow_le_pow_right (by decide) (by omega)
  have h4 : (2 : Int) ^ (7 * k + min 7 (bits - 7 * k).toNat) <= 2 ^ (7 * k + 7) := by exact_mod_cast Nat.pow_le_pow_right (by decide) (by omega)
  rw [wrap_in (k := .u64) rfl hn (by show _ < (2 : Int) ^ 64; omega)]
  refine ⟨or_add (k := .u64) (7 * k) hv0 hv h0 (by show _ < (2 : Int) ^ 64; omega) (.inl rfl), h2.1, by omega⟩
theorem sx_n : ∀ n : Fin 256, (IntKind.i8.wrap (IntKind.u8.wrap ((n.val : Int) * 2 ^ min (Int.toNat 1) IntKind.u8.bits))).fdiv (2 ^ min (Int.toNat 1) IntKind.i8.bits) = sx (n.val : Int) := by decide +kernel
theorem sx_of {x : Int} (h : byte x) : (IntKind.i8.wrap (IntKind.u8.wrap (x * 2 ^ min (Int.toNat 1) IntKind.u8.bits))).fdiv (2 ^ min (Int.toNat 1) IntKind.i8.bits) = sx x := by
  obtain ⟨h0, h1⟩ := h
  have := sx_n ⟨x.toNat, by omega⟩
  simp only [Int.toNat_of_nonneg h0] at this
  exact this
theorem shr8 (y n : Int) (h : n <= 8) : y.fdiv (2 ^ min n.toNat IntKind.i8.bits) = y / 2 ^ n.toNat := by
  rw [Nat.min_eq_left (by show _ <= 8; omega)]
  exact Int.fdiv_eq_ediv_of_nonneg _ (Int.le_of_lt (Int.pow_pos (by decide)))
theorem getD_mem {l : List Int} {k : Nat} (h : k < l.length) : l.getD k 0 ∈ l := by
  rw [List.getD_eq_getElem?_getD, List.getElem?_eq_getElem h]; exact List.getElem_mem h
theorem drop_getD {l : List Int} {k : Nat} (h : k < l.length) : l.drop k = l.getD k 0 :: l.drop (k + 1) := by
  rw [List.drop_eq_getElem_cons h]; simp [List.getD, h]
end Go.Proofs.YtmomeejfopfchaaDoor
namespace Go.Proofs.YtmomeejfopfchaaDoor
set_option maxRecDepth 20000
open Go Go.Abs Nat
attribute [local irreducible] AW AWL AC FW CW CWr IntKind.wrap
def S11 (xs : List Int) (bits at_ done n : Int) : St :=
  { n := 73, slots := [(0, .view xs.length 1 (nums .u8 xs)), (1, .int .i64 at_), (2, .int .i64 bits), (9, .int .u64 n), (10, .int .i64 done)], mem := [] }
theorem MU.NM : type_of% @NSX /\ type_of% @St.keepS.eq_1 /\ type_of% @TY /\ type_of% @SLS /\ type_of% @nums_length /\ type_of% @S11.eq_1 :=
  ⟨NSX, St.keepS.eq_1, @TY, @SLS, @nums_length, @S11.eq_1⟩
open MU
theorem K1U.kp {P : Program} {c : Code} {Q : Exit -> St -> Prop} {st : St} (h : AW P c Q (st.keepS [0, 1, 2, 6, 7, 8, 9, 10, 11, 12, 13])) : AW P c Q st := AW.keepS _ h
theorem K1U.sd {p : Prop} (h : p := by first | exact sd98d4af) : p := h
open K1U in
set_option maxRecDepth 4000 in
set_option maxHeartbeats 1000000 in
theorem u_ok (xs : List Int) (hb : bytes xs) (hlen : xs.length <= 1000000000000000) (at_ bits : Int) :
    AC Tryd.prog 28 [.view xs.length 1 (nums .u8 xs), .int .i64 at_, .int .i64 bits] (fun r m => r = .tup [.int .u64 (uSpec xs at_ bits).1, .int .i64 (uSpec xs at_ bits).2.1, .int .i64 (uSpec xs at_ bits).2.2] /\ m = []) := by
  refine AC.enter Tryd.func28 rfl (Nat.le_of_ble_eq_true rfl) ?_
  simp only [Tryd.f28]
  have nx : True := trivial
  refine' st518d76
  · refine ⟨?_, trivial⟩; rw [uSpec, if_pos (by omega)]
  · obtain ⟨a0, rfl⟩ : ∃ a0 : Nat, at_ = a0 := ⟨at_.toNat, by omega⟩
    have hsp : uSpec xs a0 bits = uRd bits (xs.drop a0) 0 0 a0 := by rw [uSpec, if_neg (by omega), Int.toNat_natCast]
    refine AW.loop [0, 1, 2, 9, 10] [] (fun n st => ∃ (k a : Nat) (v : Int), st = S11 xs bits a (7 * k) v /\ a <= xs.length /\ n = xs.length - a /\ 7 * (k : Int) < bits /\ 0 <= v /\ v < 2 ^ (7 * k) /\ uSpec xs a0 bits = uRd bits (xs.drop a) (7 * k) v a) ?_ ?_
    · exact ⟨_, 0, a0, 0, rfl, by omega, rfl, by omega, by decide, by decide, hsp⟩
    · rintro n st ⟨k, a, v, rfl, ha, rfl, hkb, hv0, hv1, hs⟩
      by_cases hal : a < xs.length
      · have hx := hb _ (getD_mem hal)
        have hA := and_127 hx.1 hx.2
        have hB : IntKind.u64.wrap (xs.getD a 0 % 128) = xs.getD a 0 % 128 := wrap_in rfl (by omega) (by show _ < (18446744073709551616 : Int); omega)
        rw [drop_getD hal] at hs
        simp only [uRd] at hs
        have hF : (xs.getD a 0 % 128).fdiv (2 ^ min (bits - 7 * (k : Int)).toNat IntKind.u64.bits) = (xs.getD a 0 % 128) / 2 ^ (bits - 7 * (k : Int)).toNat := by
          rw [show min (bits - 7 * (k : Int)).toNat IntKind.u64.bits = (bits - 7 * (k : Int)).toNat from Nat.min_eq_left (by show _ <= 64; omega), fdiv_pow _ _ (by omega)]
        have hM : min (7 * (k : Int)).toNat IntKind.u64.bits = 7 * k := by
          rw [Nat.min_eq_left (by show _ <= 64; omega)]; omega
        have hor := fun h => step_or (k := k) (low := xs.getD a 0 % 128) (by omega) hkb hv0 hv1 (by omega) (by omega) h
        have e7 : (2 : Int) ^ (7 * k + 7) = 2 ^ (7 * (k + 1)) := by rw [Nat.mul_succ]
        have nx : type_of% @hA /\ type_of% @hB /\ type_of% @hF /\ type_of% @hM /\ type_of% @wrap64_id /\ True := ⟨@hA, ⟨@hB, ⟨@hF, ⟨@hM, ⟨@wrap64_id, trivial⟩⟩⟩⟩⟩
        refine' st518d76
        all_goals try simp (disch := omega) only [NM, Nat.reduceBEq, reduceAdd, reduceMul, Int.reduceToNat, reduceSub, List.set_cons_zero, List.set_cons_succ, hA, hB, hF, hM, wrap64_id]
        · rw [hs, if_pos (.inr ⟨by omega, by assumption⟩)]; exact ⟨rfl, trivial⟩
        · have ho := hor (fun _ => by assumption)
          rw [hs, if_neg (by rintro (⟨_, h⟩ | ⟨_, h⟩) <;> first | (exact h (by assumption)) | omega), if_pos (by assumption), ho.1]; exact ⟨rfl, trivial⟩
        · rw [hs, if_pos (.inl ⟨by omega, by assumption⟩)]; exact ⟨rfl, trivial⟩
        · rw [hs, if_pos (.inr ⟨by omega, by assumption⟩)]; exact ⟨rfl, trivial⟩
        · have ho := hor (fun _ => by omega)
          rw [hs, if_neg (by rintro (⟨_, h⟩ | ⟨_, h⟩) <;> omega), if_pos (by assumption), ho.1]; exact ⟨rfl, trivial⟩
        · have ho := hor (fun _ => by omega)
          rw [hs, if_neg (by rintro (⟨_, h⟩ | ⟨_, h⟩) <;> omega), if_pos (by assumption), ho.1]; exact ⟨rfl, trivial⟩
        · have ho := hor (fun _ => by omega)
          rw [if_neg (by rintro (⟨_, h⟩ | ⟨_, h⟩) <;> omega), if_neg (by omega)] at hs
          refine ⟨xs.length - (a + 1), by omega, k + 1, a + 1, v + xs.getD a 0 % 128 * 2 ^ (7 * k), ?_, by omega, rfl, by omega, ho.2.1, by rw [<- e7]; exact ho.2.2, hs⟩
          rw [ho.1, show (7 * ((k + 1 : Nat) : Int)) = 7 * k + 7 from by omega]; rfl
      · have nx : True := trivial
        refine' st518d76
        all_goals try simp (disch := omega) only [NM, Nat.reduceBEq, reduceAdd, reduceMul, Int.reduceToNat, reduceSub, List.set_cons_zero, List.set_cons_succ]
        · rw [List.drop_of_length_le (by omega)] at hs
          rw [hs]; exact ⟨rfl, trivial⟩
        all_goals (exfalso; omega)
  all_goals (refine ⟨?_, trivial⟩; rw [uSpec, if_pos (by omega)])
end Go.Proofs.YtmomeejfopfchaaDoor
namespace Go.Proofs.YtmomeejfopfchaaDoor
set_option maxRecDepth 20000
open Go Go.Abs Nat
theorem wrap64_of {x : Int} (h0 : 0 <= x) (h1 : x < 18446744073709551616) : IntKind.i64.wrap x = if x < 9223372036854775808 then x else x - 18446744073709551616 := by
  have e : x % 18446744073709551616 = x := Int.emod_eq_of_lt h0 h1
  show (if (true && decide (x % 18446744073709551616 >= 9223372036854775808)) = true then x % 18446744073709551616 - 18446744073709551616 else x % 18446744073709551616) = _
  rw [e]
  by_cases h : x < 9223372036854775808
  · rw [if_neg (by simp; omega), if_pos h]
  · rw [if_pos (by simp; omega), if_neg h]
theorem or64 {k : Nat} (hk : k <= 8) {v low : Int} (hv0 : 0 <= v) (hv : v < 2 ^ (7 * k)) (h0 : 0 <= low) (h1 : low < 128) :
    bitsOp .or .i64 v (IntKind.i64.wrap (low * 2 ^ (7 * k))) = v + low * 2 ^ (7 * k) /\ 0 <= v + low * 2 ^ (7 * k) /\ v + low * 2 ^ (7 * k) < 2 ^ (7 * k + 7) := by
  have h2 := pow_lt_mul hv0 hv h0 (m := 7) h1
  have hp : (0 : Int) < 2 ^ (7 * k) := Int.pow_pos (by decide)
  have hn : 0 <= low * 2 ^ (7 * k) := Int.mul_nonneg h0 (by omega)
  have h3 : (2 : Int) ^ (7 * k + 7) <= 2 ^ 63 := by exact_mod_cast Nat.pow_le_pow_right (by decide) (by omega)
  rw [Go.Abs.wrap_small (k := .i64) hn (by show _ < (2 : Int) ^ 63; omega)]
  exact ⟨or_add (k := .i64) (7 * k) hv0 hv h0 (by show _ < (2 : Int) ^ 64; omega) (.inr (by show _ < (2 : Int) ^ 63; omega)), h2⟩
theorem sgn_step {k : Nat} (hk : k <= 8) {v low : Int} (hv0 : 0 <= v) (hv : v < 2 ^ (7 * k)) (h0 : 0 <= low) (h1 : low < 128) :
    (IntKind.i64.wrap (bitsOp .or .i64 v (IntKind.i64.wrap (low * 2 ^ (7 * k))) * 2 ^ min (if 0 < 57 - 7 * (k : Int) then 57 - 7 * (k : Int) else 0).toNat IntKind.i64.bits)).fdiv (2 ^ min (if 0 < 57 - 7 * (k : Int) then 57 - 7 * (k : Int) else 0).toNat IntKind.i64.bits) = sext (7 * k + 7) (v + low * 2 ^ (7 * k)) := by
  obtain ⟨e, g0, g1⟩ := or64 hk hv0 hv h0 h1
  rw [e]
  generalize v + low * 2 ^ (7 * k) = N at g0 g1
  have hs : min (if 0 < 57 - 7 * (k : Int) then 57 - 7 * (k : Int) else 0).toNat IntKind.i64.bits = 57 - 7 * k := by
    rw [show IntKind.i64.bits = 64 from rfl]; split <;> omega
  rw [hs]
  clear e hs hv hv0 h0 h1
  have : k = 0 \/ k = 1 \/ k = 2 \/ k = 3 \/ k = 4 \/ k = 5 \/ k = 6 \/ k = 7 \/ k = 8 := by omega
  rcases this with rfl | rfl | rfl | rfl | rfl | rfl | rfl | rfl | rfl <;>
    (simp only [Nat.reduceMul, Nat.reduceAdd, Nat.reduceSub, Int.reducePow] at g1 ⊢
     rw [wrap64_of (by omega) (by omega), Int.fdiv_eq_ediv_of_nonneg _ (by decide)]
     simp only [sext, Nat.reduceSub, Int.reducePow]
     split <;> split <;> omega)
theorem or_top : ∀ v : Int, 0 <= v -> v < 2 ^ 63 -> bitsOp .or .i64 v (-9223372036854775808) = v - 9223372036854775808 := by
  intro v h0 h1
  simp only [bitsOp]
  rw [BitVec.toNat_or, ofInt_toNat h0 (by show _ < (2 : Int) ^ 64; omega), show (BitVec.ofInt IntKind.i64.bits (-9223372036854775808)).toNat = 1 * 2 ^ 63 from by decide, Nat.or_comm]
  have e := Nat.shiftLeft_add_eq_or_of_lt (b := v.toNat) (i := 63) (by omega) 1
  rw [Nat.shiftLeft_eq] at e
  rw [<- e, wrap64_of (by omega) (by omega), if_neg (by omega)]
  omega
theorem sgn_last {v low : Int} (hv0 : 0 <= v) (hv : v < 2 ^ (7 * 9)) (h : low = 0 \/ low = 127) :
    (IntKind.i64.wrap (bitsOp .or .i64 v (IntKind.i64.wrap (low * 2 ^ (7 * 9))) * 2 ^ min (if 0 < 57 - 7 * ((9 : Nat) : Int) then 57 - 7 * ((9 : Nat) : Int) else 0).toNat IntKind.i64.bits)).fdiv (2 ^ min (if 0 < 57 - 7 * ((9 : Nat) : Int) then 57 - 7 * ((9 : Nat) : Int) else 0).toNat IntKind.i64.bits) = sext (7 * 9 + 7) (v + low * 2 ^ (7 * 9)) := by
  rw [if_neg (by decide), show min (Int.toNat 0) IntKind.i64.bits = 0 from rfl]
  simp only [Nat.reduceMul, Nat.reduceAdd, Int.reducePow, Int.mul_one, Int.fdiv_one] at hv ⊢
  rcases h with rfl | rfl
  · rw [Int.zero_mul, show IntKind.i64.wrap 0 = 0 from rfl, show bitsOp .or .i64 v 0 = v from ?_, wrap64_of (by omega) (by omega), if_pos (by omega), sext, if_pos (by simp only [Nat.reduceSub, Int.reducePow]; omega)]
    · omega
    · have := or_add (k := .i64) (a := v) (b := 0) 63 hv0 (by simp only [Int.reducePow]; omega) (by decide) (by show _ < (2 : Int) ^ 64; simp only [Int.reducePow]; omega) (.inr (by show _ < (2 : Int) ^ 63; simp only [Int.reducePow]; omega))
      simpa using this
  · rw [show IntKind.i64.wrap (127 * 9223372036854775808) = -9223372036854775808 from by decide, or_top v hv0 (by simp only [Int.reducePow]; omega), wrap64_id _ (by omega) (by omega), sext, if_neg (by simp only [Nat.reduceSub, Int.reducePow]; omega)]
    simp only [Int.reducePow]; omega
theorem sx_low {bits : Int} {k : Nat} {x : Int} (hb : bits <= 64) (hk : 7 * (k : Int) < bits) (h9 : ¬k <= 8) (h : bits - 7 * k <= 7 -> sx x / 2 ^ (bits - 7 * k - 1).toNat = 0 \/ sx x / 2 ^ (bits - 7 * k - 1).toNat = -1) : k = 9 /\ (x % 128 = 0 \/ x % 128 = 127) := by
  obtain rfl : k = 9 := by omega
  obtain rfl : bits = 64 := by omega
  have := h (by decide)
  rw [show ((64 : Int) - 7 * ((9 : Nat) : Int) - 1).toNat = 0 from rfl, Int.pow_zero, Int.ediv_one] at this
  refine ⟨rfl, ?_⟩
  revert this
  unfold sx
  split <;> omega
theorem sgn_all {bits : Int} {k : Nat} {x v : Int} (hb : bits <= 64) (hk : 7 * (k : Int) < bits) (hv0 : 0 <= v) (hv : v < 2 ^ (7 * k)) (h : bits - 7 * k <= 7 -> sx x / 2 ^ (bits - 7 * k - 1).toNat = 0 \/ sx x / 2 ^ (bits - 7 * k - 1).toNat = -1) :
    (IntKind.i64.wrap (bitsOp .or .i64 v (IntKind.i64.wrap (x % 128 * 2 ^ (7 * k))) * 2 ^ min (if 0 < 57 - 7 * (k : Int) then 57 - 7 * (k : Int) else 0).toNat IntKind.i64.bits)).fdiv (2 ^ min (if 0 < 57 - 7 * (k : Int) then 57 - 7 * (k : Int) else 0).toNat IntKind.i64.bits) = sext (7 * k + 7) (v + x % 128 * 2 ^ (7 * k)) := by
  by_cases h9 : k <= 8
  · exact sgn_step h9 hv0 hv (by omega) (by omega)
  · obtain ⟨rfl, hl⟩ := sx_low hb hk h9 h
    exact sgn_last hv0 hv hl
attribute [local irreducible] AW AWL AC FW CW CWr IntKind.wrap
def S13 (xs : List Int) (bits at_ done n : Int) : St :=
  { n := 83, slots := [(0, .view xs.length 1 (nums .u8 xs)), (1, .int .i64 at_), (2, .int .i64 bits), (9, .int .i64 n), (10, .int .i64 done)], mem := [] }
theorem MS.NM : type_of% @NSX /\ type_of% @St.keepS.eq_1 /\ type_of% @TY /\ type_of% @SLS /\ type_of% @nums_length /\ type_of% @S13.eq_1 :=
  ⟨NSX, St.keepS.eq_1, @TY, @SLS, @nums_length, @S13.eq_1⟩
open MS
theorem K1S.kp {P : Program} {c : Code} {Q : Exit -> St -> Prop} {st : St} (h : AW P c Q (st.keepS [0, 1, 2, 6, 7, 8, 9, 10, 11, 12, 13])) : AW P c Q st := AW.keepS _ h
theorem K1S.sd {p : Prop} (h : p := by first | exact sd98d4af) : p := h
open K1S in
set_option maxRecDepth 4000 in
set_option maxHeartbeats 1000000 in
theorem s_ok (xs : List Int) (hb : bytes xs) (hlen : xs.length <= 1000000000000000) (at_ bits : Int) :
    AC Tryd.prog 71 [.view xs.length 1 (nums .u8 xs), .int .i64 at_, .int .i64 bits] (fun r m => r = .tup [.int .i64 (sSpec xs at_ bits).1, .int .i64 (sSpec xs at_ bits).2.1, .int .i64 (sSpec xs at_ bits).2.2] /\ m = []) := by
  refine AC.enter Tryd.func71 rfl (Nat.le_of_ble_eq_true rfl) ?_
  simp only [Tryd.f71]
  have nx : True := trivial
  refine' st518d76
  · refine ⟨?_, trivial⟩; rw [sSpec, if_pos (by omega)]
  · obtain ⟨a0, rfl⟩ : ∃ a0 : Nat, at_ = a0 := ⟨at_.toNat, by omega⟩
    have hsp : sSpec xs a0 bits = sRd bits (xs.drop a0) 0 0 a0 := by rw [sSpec, if_neg (by omega), Int.toNat_natCast]
    refine AW.loop [0, 1, 2, 9, 10] [] (fun n st => ∃ (k a : Nat) (v : Int), st = S13 xs bits a (7 * k) v /\ a <= xs.length /\ n = xs.length - a /\ 7 * (k : Int) < bits /\ 0 <= v /\ v < 2 ^ (7 * k) /\ sSpec xs a0 bits = sRd bits (xs.drop a) (7 * k) v a) ?_ ?_
    · exact ⟨_, 0, a0, 0, rfl, by omega, rfl, by omega, by decide, by decide, hsp⟩
    · rintro n st ⟨k, a, v, rfl, ha, rfl, hkb, hv0, hv1, hs⟩
      by_cases hal : a < xs.length
      · have hx := hb _ (getD_mem hal)
        have hA := and_127 hx.1 hx.2
        have hB : IntKind.i64.wrap (xs.getD a 0 % 128) = xs.getD a 0 % 128 := wrap64_id _ (by omega) (by omega)
        rw [drop_getD hal] at hs
        simp only [sRd] at hs
        have hM : min (7 * (k : Int)).toNat IntKind.i64.bits = 7 * k := by
          rw [Nat.min_eq_left (by show _ <= 64; omega)]; omega
        have e7 : (2 : Int) ^ (7 * k + 7) = 2 ^ (7 * (k + 1)) := by rw [Nat.mul_succ]
        have hX := sx_of hx
        have hX2 := hX
        simp only [Int.reduceToNat] at hX2
        have nx : type_of% @hA /\ type_of% @hB /\ type_of% @hM /\ type_of% @hX /\ type_of% @hX2 /\ type_of% @shr8 /\ type_of% @wrap64_id /\ True := ⟨@hA, ⟨@hB, ⟨@hM, ⟨@hX, ⟨@hX2, ⟨@shr8, ⟨@wrap64_id, trivial⟩⟩⟩⟩⟩⟩⟩
        refine' st518d76
        all_goals try simp (disch := omega) only [NM, Nat.reduceBEq, reduceAdd, reduceMul, Int.reduceToNat, reduceSub, List.set_cons_zero, List.set_cons_succ, hA, hB, hM, hX, hX2, shr8, wrap64_id]
        all_goals first
          | ((rw [hs, if_pos ⟨by assumption, .inr (by omega)⟩]; exact ⟨rfl, trivial⟩))
          | ((have hg := sgn_all (x := xs.getD a 0) (by omega) hkb hv0 hv1 (fun _ => .inr (by assumption))); (rw [if_neg (by rintro ⟨_, ⟨_, h⟩ | h⟩ <;> first | exact h (by assumption) | omega), if_pos (by assumption)] at hs; rw [hs, hg]; exact ⟨rfl, trivial⟩))
          | ((rw [hs, if_pos ⟨by assumption, .inl ⟨by assumption, by assumption⟩⟩]; exact ⟨rfl, trivial⟩))
          | ((rw [hs, if_pos ⟨by assumption, .inr (by omega)⟩]; exact ⟨rfl, trivial⟩))
          | ((have hg := sgn_all (x := xs.getD a 0) (by omega) hkb hv0 hv1 (fun _ => .inl (by assumption))); (rw [if_neg (by rintro ⟨_, ⟨h, _⟩ | h⟩ <;> first | exact h (by assumption) | omega), if_pos (by assumption)] at hs; rw [hs, hg]; exact ⟨rfl, trivial⟩))
          | ((have hg := sgn_all (x := xs.getD a 0) (by omega) hkb hv0 hv1 (fun _ => by omega)); (rw [if_neg (by rintro ⟨_, _⟩; omega), if_pos (by assumption)] at hs; rw [hs, hg]; exact ⟨rfl, trivial⟩))
          | ((have ho := or64 (k := k) (low := xs.getD a 0 % 128) (by omega) hv0 hv1 (by omega) (by omega)); (rw [if_neg (by rintro ⟨_, _⟩; omega), if_neg (by omega)] at hs); (refine ⟨xs.length - (a + 1), by omega, k + 1, a + 1, v + xs.getD a 0 % 128 * 2 ^ (7 * k), ?_, by omega, rfl, by omega, ho.2.1, by rw [<- e7]; exact ho.2.2, hs⟩); (rw [ho.1, show (7 * ((k + 1 : Nat) : Int)) = 7 * k + 7 from by omega]; rfl))
          | trace_state
      · have nx : True := trivial
        refine' st518d76
        all_goals try simp (disch := omega) only [NM, Nat.reduceBEq, reduceAdd, reduceMul, Int.reduceToNat, reduceSub, List.set_cons_zero, List.set_cons_succ]
        · rw [List.drop_of_length_le (by omega)] at hs
          rw [hs]; exact ⟨rfl, trivial⟩
        all_goals (exfalso; omega)
  all_goals (refine ⟨?_, trivial⟩; rw [sSpec, if_pos (by omega)])
end Go.Proofs.YtmomeejfopfchaaDoor
namespace Go.Proofs.YtmomeejfopfchaaDoor
set_option maxRecDepth 20000
open Go Go.Abs
theorem bytes_at {l : List Int} (h : bytes l) {k : Nat} (hk : k < l.length) : byte (l.getD k 0) := h _ (getD_mem hk)
theorem bytes_take {l : List Int} (h : bytes l) (n : Nat) : bytes (l.take n) := fun x hx => h x (List.mem_of_mem_take hx)
theorem bytes_drop {l : List Int} (h : bytes l) (n : Nat) : bytes (l.drop n) := fun x hx => h x (List.mem_of_mem_drop hx)
def le : List Int -> Int
  | [] => 0
  | x :: l => x + 256 * le l
def toB : Nat -> Int -> List Int
  | 0, _ => []
  | n + 1, x => x % 256 :: toB n (x / 256)
theorem toB_len (n : Nat) (x : Int) : (toB n x).length = n := by
  induction n generalizing x with
  | zero => rfl
  | succ n ih => simp [toB, ih]
theorem pow8 (n : Nat) : (2 : Int) ^ (8 * (n + 1)) = 256 * 2 ^ (8 * n) := by
  rw [show 8 * (n + 1) = 8 * n + 8 from by omega, Int.pow_add, Int.mul_comm]; rfl
theorem le_append (a b : List Int) : le (a ++ b) = le a + 2 ^ (8 * a.length) * le b := by
  induction a with
  | nil => simp [le]
  | cons x a ih =>
    rw [List.cons_append, le, ih, List.length_cons, pow8, le, Int.mul_add, Int.mul_assoc]; omega
theorem le_bound {l : List Int} (h : bytes l) : 0 <= le l /\ le l < 2 ^ (8 * l.length) := by
  induction l with
  | nil => exact ⟨Int.le_refl _, by decide⟩
  | cons x l ih =>
    have h1 := ih (fun y hy => h y (List.mem_cons_of_mem _ hy))
    have h2 := h x (List.mem_cons_self ..)
    rw [List.length_cons, pow8, le]
    unfold byte at h2
    omega
theorem le_take {l : List Int} {k : Nat} (h : k < l.length) : le (l.take (k + 1)) = le (l.take k) + l.getD k 0 * 2 ^ (8 * k) := by
  rw [take_succ_getD h, le_append, List.length_take, Nat.min_eq_left (by omega)]
  simp [le, Int.mul_comm]
def lanes (w : Int) : Nat := if w = 8 then 16 else if w = 16 then 8 else if w = 32 then 4 else if w = 64 then 2 else 0
def wb (w : Int) : Nat := (w / 8).toNat
def get (v : List Int) (w i : Int) : Int := if 0 <= i /\ i < lanes w then le ((v.drop (i.toNat * wb w)).take (wb w)) else 0
def sgn (w x : Int) : Int := if x % 2 ^ w.toNat < 2 ^ (w.toNat - 1) then x % 2 ^ w.toNat else x % 2 ^ w.toNat - 2 ^ w.toNat
def signed (v : List Int) (w i : Int) : Int := if lanes w = 0 then 0 else sgn w (get v w i)
def splice (l : List Int) (o : Nat) (m : List Int) : List Int := l.take o ++ m ++ l.drop (o + m.length)
def set (v : List Int) (w i x : Int) : List Int := if 0 <= i /\ i < lanes w then splice v (i.toNat * wb w) (toB (wb w) x) else v
def zero16 : List Int := [0, 0, 0, 0, 0, 0, 0, 0, 0, 0, 0, 0, 0, 0, 0, 0]
def sets (w : Int) : List Int -> Nat -> List Int -> List Int
  | v, _, [] => v
  | v, i, x :: xs => sets w (set v w i x) (i + 1) xs
def of (w : Int) (xs : List Int) : List Int := sets w zero16 0 (xs.take (lanes w))
def all (v : List Int) (w : Int) : List Int := (List.range (lanes w)).map fun i => get v w (i : Nat)
def lo (v : List Int) : Int := le (v.take 8)
def hi (v : List Int) : Int := le (v.drop 8)
def join (l h : Int) : List Int := toB 8 l ++ toB 8 h
def need (t : Int) : Nat := if t = 127 \/ t = 126 then 1 else if t = 123 then 2 else 0
theorem drop16 {k : IntKind} {l : List Int} (h : l.length = 16) : List.drop 16 (nums k l) = [] := List.drop_of_length_le (by rw [nums_length]; omega)
theorem dz : List.drop 16 (nums .u8 zero16) = [] := rfl
theorem take16 {l : List Int} (h : l.length = 16) : List.take 16 l = l := List.take_of_length_le (by omega)
end Go.Proofs.YtmomeejfopfchaaDoor
namespace Go.Proofs.YtmomeejfopfchaaDoor
open Go Go.Abs
attribute [local irreducible] AW AWL AC FW CW CWr IntKind.wrap
theorem K1Tabs.sd {p : Prop} (h : p := by first | exact sd2365ef) : p := h
open K1Tabs in
set_option maxRecDepth 8000 in
set_option maxHeartbeats 6400000 in
theorem scalars_own : AC Tryd.prog 66 [] (fun r m => r = .ref 0 0 42 5 /\ m = [(0, rowC scalarsR)]) := by
  refine AC.enter Tryd.func66 rfl (Nat.le_of_ble_eq_true rfl) ?_
  simp only [Tryd.f66]
  have nx : True := trivial
  refine' stbd58d2
  all_goals first | exact ⟨trivial, trivial⟩ | exact ⟨rfl, trivial⟩ | exact ⟨rfl, rfl⟩ | exact ⟨trivial, rfl⟩ | (exfalso; omega) | trace_state
theorem scalars_ok : AC Tryd.prog 66 [] (fun r m => r = .view 42 5 (rowC scalarsR) /\ m = []) := scalars_own.look ((rowC_len _).trans rfl)
open K1Tabs in
set_option maxRecDepth 8000 in
set_option maxHeartbeats 6400000 in
theorem vectors_own : AC Tryd.prog 67 [] (fun r m => r = .ref 0 0 66 5 /\ m = [(0, rowC vectorsR)]) := by
  refine AC.enter Tryd.func67 rfl (Nat.le_of_ble_eq_true rfl) ?_
  simp only [Tryd.f67]
  have nx : True := trivial
  refine' stbd58d2
  all_goals first | exact ⟨trivial, trivial⟩ | exact ⟨rfl, trivial⟩ | exact ⟨rfl, rfl⟩ | exact ⟨trivial, rfl⟩ | (exfalso; omega) | trace_state
theorem vectors_ok : AC Tryd.prog 67 [] (fun r m => r = .view 66 5 (rowC vectorsR) /\ m = []) := vectors_own.look ((rowC_len _).trans rfl)
end Go.Proofs.YtmomeejfopfchaaDoor
