/- Step lists. -/
import Derived.Test.YteppkbaeacndiaaDB
set_option linter.unusedSimpArgs false
set_option linter.unusedVariables false
namespace Go.Abs
open Go Go.RowKit
theorem sd278ba4 {p : Prop} (h : p := by first
  | (focus ((first | exact trivial | omega | assumption | ((first | refine ld_nums i3 _ _ ?_ | refine ld_nums i5 _ _ ?_ | refine at_nums i3 _ _ ?_ | refine at_nums i5 _ _ ?_); first | assumption | omega | (simp only [List.length_append]; omega)) | (show _ ≠ _; decide) | (show _ <= _; omega) | (simp only [List.length_take, List.length_drop, List.length_append, List.length_cons, List.length_nil]; omega) | ((repeat' (first | exact trivial | exact rfl | exact Nat.le_of_ble_eq_true rfl | refine And.intro ?_ ?_ | fail)); done) | ((try simp (disch := omega) only [NM, Nat.reduceBEq, reduceAdd, reduceMul, Int.reduceToNat, reduceSub, List.set_cons_zero, List.set_cons_succ, nx]); (repeat' (first | exact trivial | exact rfl | exact ⟨_, _, rfl⟩ | exact ⟨_, rfl⟩ | exact Nat.le_of_ble_eq_true rfl | exact Nat.zero_lt_succ _ | omega | (simp only [List.length_append]; omega) | (simp only [nums_length] at *; omega) | refine And.intro ?_ ?_ | fail)); done)); done))
  | fail) : p := h
theorem sd3801f5 {p : Prop} (h : p := by first
  | (focus ((first | exact trivial | omega | ((show newKs _ _ _ = true); kernel_rfl) | ((show FitV _ _ _ _ _ _); (repeat' (first | exact trivial | exact Or.inr (Or.inl rfl) | exact Or.inl rfl | exact Or.inr (Or.inr rfl) | refine And.intro ?_ ?_)); done) | assumption | ((first | refine ld_nums i3 _ _ ?_ | refine ld_nums i35 _ _ ?_ | refine ld_nums i5 _ _ ?_ | refine at_nums i3 _ _ ?_ | refine at_nums i35 _ _ ?_ | refine at_nums i5 _ _ ?_); first | assumption | omega | (simp only [List.length_append]; omega)) | (show _ <= _; omega) | (simp only [List.length_take, List.length_drop, List.length_append, List.length_cons, List.length_nil]; omega) | ((repeat' (first | exact trivial | exact rfl | exact Nat.le_of_ble_eq_true rfl | refine And.intro ?_ ?_ | fail)); done) | ((try simp (disch := omega) only [NM, Nat.reduceBEq, reduceAdd, reduceMul, Int.reduceToNat, reduceSub, List.set_cons_zero, List.set_cons_succ, nx]); (repeat' (first | exact trivial | exact rfl | exact ⟨_, _, rfl⟩ | exact ⟨_, rfl⟩ | exact Nat.le_of_ble_eq_true rfl | exact Nat.zero_lt_succ _ | omega | (simp only [nums_length, toB_len] at *; omega) | refine And.intro ?_ ?_ | fail)); done)); done))
  | fail) : p := h
theorem sd3e4394 {p : Prop} (h : p := by first
  | (focus ((first | exact trivial | omega | assumption | ((first | refine ld_nums i3 _ _ ?_ | refine ld_nums i5 _ _ ?_ | refine at_nums i3 _ _ ?_ | refine at_nums i5 _ _ ?_); first | assumption | omega | (simp only [List.length_append]; omega)) | exact byte_str2 hby | (show _ <= _; omega) | (simp only [List.length_take, List.length_drop, List.length_append, List.length_cons, List.length_nil]; omega) | ((repeat' (first | exact trivial | exact rfl | exact Nat.le_of_ble_eq_true rfl | refine And.intro ?_ ?_ | fail)); done) | ((try simp (disch := omega) only [NM, Nat.reduceBEq, reduceAdd, reduceMul, Int.reduceToNat, reduceSub, List.set_cons_zero, List.set_cons_succ, nx]); (repeat' (first | exact trivial | exact rfl | exact ⟨_, _, rfl⟩ | exact ⟨_, rfl⟩ | exact Nat.le_of_ble_eq_true rfl | exact Nat.zero_lt_succ _ | omega | (simp only [List.length_append]; omega) | (simp only [nums_length] at *; omega) | refine And.intro ?_ ?_ | fail)); done)); done))
  | fail) : p := h
theorem sd45ccef {p : Prop} (h : p := by first
  | (focus ((first | exact trivial | omega | ((show newKs _ _ _ = true); kernel_rfl) | ((show FitV _ _ _ _ _ _); (repeat' (first | exact trivial | exact Or.inr (Or.inl rfl) | exact Or.inl rfl | exact Or.inr (Or.inr rfl) | refine And.intro ?_ ?_)); done) | assumption | ((first | refine ld_nums i3 _ _ ?_ | refine ld_nums i35 _ _ ?_ | refine ld_nums i5 _ _ ?_ | refine at_nums i3 _ _ ?_ | refine at_nums i35 _ _ ?_ | refine at_nums i5 _ _ ?_); first | assumption | omega | (simp only [List.length_append]; omega)) | exact zero_ok.1 | exact zero_ok.2 | (show _ <= _; omega) | (simp only [List.length_take, List.length_drop, List.length_append, List.length_cons, List.length_nil]; omega) | ((repeat' (first | exact trivial | exact rfl | exact Nat.le_of_ble_eq_true rfl | refine And.intro ?_ ?_ | fail)); done) | ((try simp (disch := omega) only [NM, Nat.reduceBEq, reduceAdd, reduceMul, Int.reduceToNat, reduceSub, List.set_cons_zero, List.set_cons_succ, nx]); (repeat' (first | exact trivial | exact rfl | exact ⟨_, _, rfl⟩ | exact ⟨_, rfl⟩ | exact Nat.le_of_ble_eq_true rfl | exact Nat.zero_lt_succ _ | omega | (simp only [nums_length, toB_len] at *; omega) | refine And.intro ?_ ?_ | fail)); done)); done))
  | fail) : p := h
theorem sd87356d {p : Prop} (h : p := by first
  | (focus ((first | exact trivial | omega | assumption | ((first | refine ld_nums i3 _ _ ?_ | refine ld_nums i35 _ _ ?_ | refine ld_nums i5 _ _ ?_ | refine at_nums i3 _ _ ?_ | refine at_nums i35 _ _ ?_ | refine at_nums i5 _ _ ?_); first | assumption | omega | (simp only [List.length_append]; omega)) | exact ld_nums i35 _ _ (by first | assumption | omega) | exact ld_nums i2 _ _ (by first | assumption | omega) | (show _ <= _; omega) | (simp only [List.length_take, List.length_drop, List.length_append, List.length_cons, List.length_nil]; omega) | ((repeat' (first | exact trivial | exact rfl | exact Nat.le_of_ble_eq_true rfl | refine And.intro ?_ ?_ | fail)); done) | ((try simp (disch := omega) only [NM, Nat.reduceBEq, reduceAdd, reduceMul, Int.reduceToNat, reduceSub, List.set_cons_zero, List.set_cons_succ, nx]); (repeat' (first | exact trivial | exact rfl | exact ⟨_, _, rfl⟩ | exact ⟨_, rfl⟩ | exact Nat.le_of_ble_eq_true rfl | exact Nat.zero_lt_succ _ | omega | (simp only [nums_length] at *; omega) | refine And.intro ?_ ?_ | fail)); done)); done))
  | fail) : p := h
theorem sdba8e74 {p : Prop} (h : p := by first
  | (focus ((first | exact trivial | omega | assumption | ((first | refine ld_nums i3 _ _ ?_ | refine ld_nums i5 _ _ ?_ | refine at_nums i3 _ _ ?_ | refine at_nums i5 _ _ ?_); first | assumption | omega | (simp only [List.length_append]; omega)) | (simp only [byIns, roomC]; omega) | (show _ <= _; omega) | (simp only [List.length_take, List.length_drop, List.length_append, List.length_cons, List.length_nil]; omega) | ((repeat' (first | exact trivial | exact rfl | exact Nat.le_of_ble_eq_true rfl | refine And.intro ?_ ?_ | fail)); done) | ((try simp (disch := omega) only [NM, Nat.reduceBEq, reduceAdd, reduceMul, Int.reduceToNat, reduceSub, List.set_cons_zero, List.set_cons_succ, nx]); (repeat' (first | exact trivial | exact rfl | exact ⟨_, _, rfl⟩ | exact ⟨_, rfl⟩ | exact Nat.le_of_ble_eq_true rfl | exact Nat.zero_lt_succ _ | omega | (simp only [List.length_append]; omega) | (simp only [nums_length] at *; omega) | refine And.intro ?_ ?_ | fail)); done)); done))
  | fail) : p := h
theorem sdd796e3 {p : Prop} (h : p := by first
  | (focus ((first | exact trivial | omega | assumption | ((first | refine ld_nums i3 _ _ ?_ | refine ld_nums i35 _ _ ?_ | refine ld_nums i5 _ _ ?_ | refine at_nums i3 _ _ ?_ | refine at_nums i35 _ _ ?_ | refine at_nums i5 _ _ ?_); first | assumption | omega | (simp only [List.length_append]; omega)) | (show _ <= _; omega) | (simp only [List.length_take, List.length_drop, List.length_append, List.length_cons, List.length_nil]; omega) | ((repeat' (first | exact trivial | exact rfl | exact Nat.le_of_ble_eq_true rfl | refine And.intro ?_ ?_ | fail)); done) | ((try simp (disch := omega) only [NM, Nat.reduceBEq, reduceAdd, reduceMul, Int.reduceToNat, reduceSub, List.set_cons_zero, List.set_cons_succ, nx]); (repeat' (first | exact trivial | exact rfl | exact ⟨_, _, rfl⟩ | exact ⟨_, rfl⟩ | exact Nat.le_of_ble_eq_true rfl | exact Nat.zero_lt_succ _ | omega | (simp only [nums_length, toB_len] at *; omega) | refine And.intro ?_ ?_ | fail)); done)); done))
  | fail) : p := h
theorem st0252bb {p : Prop} (h : p := by
  repeat' (first
    | ((with_reducible show AW _ _ _ _); first | ((first | refine AW.seqA ?_ | refine AW.blockA ?_); intro Qn hQn hPn))
    | ((with_reducible first | show AWL _ _ _ _ _ | show AW _ _ _ _); (first | refine AWL.nil ?_ | refine AW.skip ?_ | refine AW.ret ?_ | refine AW.exit ?_); (repeat (first | refine QEq.mp (by assumption) ?_ | simp only [thenQ, Go.Abs.blockQ, ↓reduceIte, Nat.reduceEqDiff])))
    | ((first
      | ((with_reducible show AWL _ _ _ _ _); first | refine AWL.opN (sl := SL) rfl rfl rfl trivial ?_ | (refine AWL.boxF (t := 82) rfl rfl rfl rfl rfl ?_) | (refine AWL.allocF (t := 82) rfl rfl rfl rfl rfl rfl ?_) | (refine AWL.op (sl := SL) rfl rfl ?_ ?_) | (refine AWL.ptrNil rfl rfl rfl rfl rfl rfl (by kernel_rfl) ?_) | (refine AWL.sliceNil rfl rfl rfl rfl rfl (by kernel_rfl) ?_ ?_; (focus (first | exact trivial | exact numsZ)); (intro r hr; cases r <;> first | (have hr := hr rfl) | (clear hr))) | (refine AWL.guard2 rfl rfl rfl rfl rfl rfl ?_ ?_ <;> (intro hc; (try simp only [Bool.not_true, Bool.not_false] at hc); first | (cases hc; done) | ((try simp only [hc]); (try simp only [HCX] at hc); (try (exfalso; omega)); (try (guard_hyp hc : True; clear hc))))) | refine AWL.guardU rfl rfl rfl rfl rfl rfl ?_ | refine' cl)
      | ((with_reducible show AW _ _ _ _); first | ((show AW _ (.region _ _ false) _ _); refine kp ?_; refine AW.region ?_))) <;> (try ((first | with_reducible (first | show AWL _ _ _ _ _ | show AW _ _ _ _ | show DQ _ _ _ _ _ _) | (rintro _ _ ⟨rfl, rfl⟩; (try refine And.intro rfl ?_))); (try (conv => arg -1; simp (disch := omega) only [NM, Nat.reduceBEq, reduceAdd, reduceMul, Int.reduceToNat, reduceSub, List.set_cons_zero, List.set_cons_succ, nx])))))
    | ((with_reducible show AW _ _ _ _); first | (refine AW.cond rfl (fun hc => ?_) (fun hc => ?_) <;> first | (cases hc; done) | ((try simp only [HCX] at hc); (try (exfalso; omega)); (try (guard_hyp hc : True; clear hc)))))
    | ((with_reducible show True); exact trivial)
    | ((refine EndQ.mk rfl rfl rfl ?_ ?_ ?_; (focus (first | exact Or.inl rfl | exact Or.inr rfl))) <;> (try simp (disch := omega) only [NM, Nat.reduceBEq, reduceAdd, reduceMul, Int.reduceToNat, reduceSub, List.set_cons_zero, List.set_cons_succ, nx]))
    | exact sd
    | fail)
  all_goals (try clear nx)
  all_goals (apply_rules (newGoals := .nonDependentOnly) only [dep])
  all_goals constructor) : p := h
theorem st14be6b {p : Prop} (h : p := by
  repeat' (first
    | ((with_reducible show CW _ _ _ _ _ _ _ _ _ _ _ _); first | refine CW.skip rfl rfl ?_ | refine CW.step rfl rfl rfl rfl rfl ?_)
    | ((with_reducible show FW _ _ _ _ _ _ _ _ _ _); first | refine FW.pass rfl rfl ?_ | refine FW.go rfl ?_ | refine FW.nil ?_)
    | ((with_reducible show AW _ _ _ _); first | ((first | refine AW.seqA ?_ | refine AW.blockA ?_); intro Qn hQn hPn))
    | ((with_reducible first | show AWL _ _ _ _ _ | show AW _ _ _ _ | show CW _ _ _ _ _ _ _ _ _ _ _ _); (first | refine AWL.nil ?_ | refine AW.skip ?_ | refine AW.ret ?_ | refine AW.exit ?_ | refine CW.nil ?_); (repeat (first | refine QEq.mp (by assumption) ?_ | simp only [thenQ, Go.Abs.blockQ, ↓reduceIte, Nat.reduceEqDiff])))
    | ((first
      | ((with_reducible show AWL _ _ _ _ _); first | refine AWL.opN (sl := SL) rfl rfl rfl trivial ?_ | (refine AWL.boxF (t := 82) rfl rfl rfl rfl rfl ?_) | (refine AWL.allocF (t := 82) rfl rfl rfl rfl rfl rfl ?_) | (refine AWL.op (sl := SL) rfl rfl ?_ ?_) | refine' cl)
      | ((with_reducible show CWr _ _ _ _ _ _ _ _ _ _ _ _ _ _); first | (refine CWr.op rfl ?_ ?_ ?_) | (refine CWr.call (f := 67) rfl ?_ rfl (rget_ok _ hl hb _ _) (fun _ _ h => h) ?_ ?_ ?_; (focus kernel_rfl)))
      | ((with_reducible show CW _ _ _ _ _ _ _ _ _ _ _ _); first | refine CW.tail rfl ?_)
      | ((with_reducible show FW _ _ _ _ _ _ _ _ _ _); first | (refine FW.float rfl rfl rfl rfl rfl ?_))
      | ((with_reducible show AW _ _ _ _); first | ((show AW _ (.region _ _ false) _ _); refine kp ?_; refine AW.region ?_) | ((show AW _ (.region _ _ true) _ _); refine kp ?_; refine AW.calm false [] [] hmix ?hpan ?hchkc rfl ?_; (case hchkc => (as_aux_lemma => kernel_rfl)); (case hpan => (first | assumption | exact panOk_end | exact panOk_endM | exact panOk_then (by first | assumption | exact panOk_end | exact panOk_endM) | exact panOk_block (by assumption)))))) <;> (try ((first | with_reducible (first | show AWL _ _ _ _ _ | show AW _ _ _ _ | show FW _ _ _ _ _ _ _ _ _ _ | show CW _ _ _ _ _ _ _ _ _ _ _ _) | (rintro _ _ ⟨rfl, rfl⟩; (try refine And.intro rfl ?_))); (try (conv => arg -1; simp (disch := omega) only [NM, Nat.reduceBEq, reduceAdd, reduceMul, Int.reduceToNat, reduceSub, List.set_cons_zero, List.set_cons_succ, nx])))))
    | ((with_reducible show AW _ _ _ _); first | (refine AW.cond rfl (fun hc => ?_) (fun hc => ?_) <;> first | (cases hc; done) | ((try simp only [HCX] at hc); (try (exfalso; omega)); (try (guard_hyp hc : True; clear hc)))))
    | ((with_reducible show True); exact trivial) | ((with_reducible show FitV _ _ _ _ _ _); (repeat' (first | exact trivial | exact Or.inr (Or.inl rfl) | exact Or.inl rfl | exact Or.inr (Or.inr rfl) | refine And.intro ?_ ?_)); done) | ((with_reducible show newKs _ _ _ = true); kernel_rfl)
    | ((refine EndQ.mk rfl rfl rfl ?_ ?_ ?_; (focus (first | exact Or.inl rfl | exact Or.inr rfl))) <;> (try simp (disch := omega) only [NM, Nat.reduceBEq, reduceAdd, reduceMul, Int.reduceToNat, reduceSub, List.set_cons_zero, List.set_cons_succ, nx]))
    | exact sd
    | fail)
  all_goals (try clear nx)
  all_goals (apply_rules (newGoals := .nonDependentOnly) only [dep])
  all_goals constructor) : p := h
theorem st53a66f {p : Prop} (h : p := by
  repeat' (first
    | ((with_reducible show AW _ _ _ _); first | ((first | refine AW.seqA ?_ | refine AW.blockA ?_); intro Qn hQn hPn))
    | ((with_reducible first | show AWL _ _ _ _ _ | show AW _ _ _ _); (first | refine AWL.nil ?_ | refine AW.skip ?_ | refine AW.ret ?_ | refine AW.exit ?_); (repeat (first | refine QEq.mp (by assumption) ?_ | simp only [thenQ, Go.Abs.blockQ, ↓reduceIte, Nat.reduceEqDiff])))
    | ((first
      | ((with_reducible show AWL _ _ _ _ _); first | refine AWL.opN (sl := SL) rfl rfl rfl trivial ?_ | (refine AWL.op (sl := SL) rfl rfl ?_ ?_) | (refine AWL.guard2 rfl rfl rfl rfl rfl rfl ?_ ?_ <;> (intro hc; (try simp only [Bool.not_true, Bool.not_false] at hc); first | (cases hc; done) | ((try simp only [hc]); (try simp only [HCX] at hc); (try (exfalso; omega)); (try (guard_hyp hc : True; clear hc))))) | refine AWL.guardU rfl rfl rfl rfl rfl rfl ?_ | refine' cl)
      | ((with_reducible show AW _ _ _ _); first | ((show AW _ (.region _ _ false) _ _); refine kp ?_; refine AW.region ?_))) <;> (try ((first | with_reducible (first | show AWL _ _ _ _ _ | show AW _ _ _ _ | show DQ _ _ _ _ _ _) | (rintro _ _ ⟨rfl, rfl⟩; (try refine And.intro rfl ?_))); (try (conv => arg -1; simp (disch := omega) only [NM, Nat.reduceBEq, reduceAdd, reduceMul, Int.reduceToNat, reduceSub, List.set_cons_zero, List.set_cons_succ, nx])))))
    | ((with_reducible show AW _ _ _ _); first | (refine AW.cond rfl (fun hc => ?_) (fun hc => ?_) <;> first | (cases hc; done) | ((try simp only [HCX] at hc); (try (exfalso; omega)); (try (guard_hyp hc : True; clear hc)))))
    | ((with_reducible show True); exact trivial)
    | ((refine EndQ.mk rfl rfl rfl ?_ ?_ ?_; (focus (first | exact Or.inl rfl | exact Or.inr rfl))) <;> (try simp (disch := omega) only [NM, Nat.reduceBEq, reduceAdd, reduceMul, Int.reduceToNat, reduceSub, List.set_cons_zero, List.set_cons_succ, nx]))
    | exact sd
    | fail)
  all_goals (try clear nx)
  all_goals (apply_rules (newGoals := .nonDependentOnly) only [dep])
  all_goals constructor) : p := h
theorem st6b56c8 {p : Prop} (h : p := by
  repeat' (first
    | ((with_reducible show AW _ _ _ _); first | ((first | refine AW.seqA ?_ | refine AW.blockA ?_); intro Qn hQn hPn))
    | ((with_reducible first | show AWL _ _ _ _ _ | show AW _ _ _ _); (first | refine AWL.nil ?_ | refine AW.skip ?_ | refine AW.ret ?_ | refine AW.exit ?_); (repeat (first | refine QEq.mp (by assumption) ?_ | simp only [thenQ, Go.Abs.blockQ, ↓reduceIte, Nat.reduceEqDiff])))
    | ((first
      | ((with_reducible show AWL _ _ _ _ _); first | refine AWL.opN (sl := SL) rfl rfl rfl trivial ?_ | (refine AWL.boxF (t := 82) rfl rfl rfl rfl rfl ?_) | (refine AWL.allocF (t := 82) rfl rfl rfl rfl rfl rfl ?_) | (refine AWL.op (sl := SL) rfl rfl ?_ ?_) | (refine AWL.ptrNil rfl rfl rfl rfl rfl rfl (by kernel_rfl) ?_) | (refine AWL.sliceNil rfl rfl rfl rfl rfl (by kernel_rfl) ?_ ?_; (focus (first | exact trivial | exact numsZ)); (intro r hr; cases r <;> first | (have hr := hr rfl) | (clear hr))) | refine' cl)
      | ((with_reducible show AW _ _ _ _); first | ((fail_if_success (show AW _ (.region 2 _ _) _ _)); (show AW _ (.region _ _ false) _ _); refine kp ?_; refine AW.region ?_))) <;> (try ((first | with_reducible (first | show AWL _ _ _ _ _ | show AW _ _ _ _ | show DQ _ _ _ _ _ _) | (rintro _ _ ⟨rfl, rfl⟩; (try refine And.intro rfl ?_))); (try (conv => arg -1; simp (disch := omega) only [NM, Nat.reduceBEq, reduceAdd, reduceMul, Int.reduceToNat, reduceSub, List.set_cons_zero, List.set_cons_succ, nx])))))
    | ((with_reducible show AW _ _ _ _); first | (refine AW.cond rfl (fun hc => ?_) (fun hc => ?_) <;> first | (cases hc; done) | ((try simp only [HCX] at hc); (try (exfalso; omega)); (try (guard_hyp hc : True; clear hc)))))
    | ((with_reducible show True); exact trivial)
    | ((refine EndQ.mk rfl rfl rfl ?_ ?_ ?_; (focus (first | exact Or.inl rfl | exact Or.inr rfl))) <;> (try simp (disch := omega) only [NM, Nat.reduceBEq, reduceAdd, reduceMul, Int.reduceToNat, reduceSub, List.set_cons_zero, List.set_cons_succ, nx]))
    | exact sd
    | fail)
  all_goals (try clear nx)
  all_goals (apply_rules (newGoals := .nonDependentOnly) only [dep])
  all_goals constructor) : p := h
theorem st9e5439 {p : Prop} (h : p := by
  repeat' (first
    | ((with_reducible show AW _ _ _ _); first | ((first | refine AW.seqA ?_ | refine AW.blockA ?_); intro Qn hQn hPn))
    | ((with_reducible first | show AWL _ _ _ _ _ | show AW _ _ _ _); (first | refine AWL.nil ?_ | refine AW.skip ?_ | refine AW.ret ?_ | refine AW.exit ?_); (repeat (first | refine QEq.mp (by assumption) ?_ | simp only [thenQ, Go.Abs.blockQ, ↓reduceIte, Nat.reduceEqDiff])))
    | ((first
      | ((with_reducible show AWL _ _ _ _ _); first | refine AWL.opN (sl := SL) rfl rfl rfl trivial ?_ | (refine AWL.op (sl := SL) rfl rfl ?_ ?_) | (refine AWL.ptrNil rfl rfl rfl rfl rfl rfl (by kernel_rfl) ?_) | (refine AWL.sliceNil rfl rfl rfl rfl rfl (by kernel_rfl) ?_ ?_; (focus (first | exact trivial | exact numsZ)); (intro r hr; cases r <;> first | (have hr := hr rfl) | (clear hr))) | (refine AWL.guard2 rfl rfl rfl rfl rfl rfl ?_ ?_ <;> (intro hc; (try simp only [Bool.not_true, Bool.not_false] at hc); first | (cases hc; done) | ((try simp only [hc]); (try simp only [HCX] at hc); (try (exfalso; omega)); (try (guard_hyp hc : True; clear hc))))) | refine AWL.guardU rfl rfl rfl rfl rfl rfl ?_ | refine' cl)
      | ((with_reducible show AW _ _ _ _); first | ((fail_if_success (show AW _ (.region 12 _ _) _ _)); (show AW _ (.region _ _ false) _ _); refine kp ?_; refine AW.region ?_))) <;> (try ((first | with_reducible (first | show AWL _ _ _ _ _ | show AW _ _ _ _ | show DQ _ _ _ _ _ _) | (rintro _ _ ⟨rfl, rfl⟩; (try refine And.intro rfl ?_))); (try (conv => arg -1; simp (disch := omega) only [NM, Nat.reduceBEq, reduceAdd, reduceMul, Int.reduceToNat, reduceSub, List.set_cons_zero, List.set_cons_succ, nx])))))
    | ((with_reducible show AW _ _ _ _); first | (refine AW.cond rfl (fun hc => ?_) (fun hc => ?_) <;> first | (cases hc; done) | ((try simp only [HCX] at hc); (try (exfalso; omega)); (try (guard_hyp hc : True; clear hc)))))
    | ((with_reducible show True); exact trivial)
    | ((refine EndQ.mk rfl rfl rfl ?_ ?_ ?_; (focus (first | exact Or.inl rfl | exact Or.inr rfl))) <;> (try simp (disch := omega) only [NM, Nat.reduceBEq, reduceAdd, reduceMul, Int.reduceToNat, reduceSub, List.set_cons_zero, List.set_cons_succ, nx]))
    | exact sd
    | fail)
  all_goals (try clear nx)
  all_goals (apply_rules (newGoals := .nonDependentOnly) only [dep])
  all_goals constructor) : p := h
theorem sta7f635 {p : Prop} (h : p := by
  repeat' (first
    | ((with_reducible show CW _ _ _ _ _ _ _ _ _ _ _ _); first | refine CW.skip rfl rfl ?_ | refine CW.step rfl rfl rfl rfl rfl ?_)
    | ((with_reducible show FW _ _ _ _ _ _ _ _ _ _); first | refine FW.pass rfl rfl ?_ | refine FW.go rfl ?_ | refine FW.nil ?_)
    | ((with_reducible show AW _ _ _ _); first | ((first | refine AW.seqA ?_ | refine AW.blockA ?_); intro Qn hQn hPn))
    | ((with_reducible first | show AWL _ _ _ _ _ | show AW _ _ _ _ | show CW _ _ _ _ _ _ _ _ _ _ _ _); (first | refine AWL.nil ?_ | refine AW.skip ?_ | refine AW.ret ?_ | refine AW.exit ?_ | refine CW.nil ?_); (repeat (first | refine QEq.mp (by assumption) ?_ | simp only [thenQ, Go.Abs.blockQ, ↓reduceIte, Nat.reduceEqDiff])))
    | ((first
      | ((with_reducible show AWL _ _ _ _ _); first | refine AWL.opN (sl := SL) rfl rfl rfl trivial ?_ | (refine AWL.boxF (t := 82) rfl rfl rfl rfl rfl ?_) | (refine AWL.allocF (t := 82) rfl rfl rfl rfl rfl rfl ?_) | (refine AWL.op (sl := SL) rfl rfl ?_ ?_) | refine' cl)
      | ((with_reducible show CWr _ _ _ _ _ _ _ _ _ _ _ _ _ _); first | (refine CWr.op rfl ?_ ?_ ?_) | (refine CWr.call (f := 63) rfl ?_ rfl (rset_ok _ ?_ ?_ _ _ _ ?_ ?_) (fun _ _ h => h) ?_ ?_ ?_; (focus kernel_rfl)) | (refine CWr.call (f := 63) rfl ?_ rfl (AC.of_fagg (rset_ok zero16 zero_ok.1 zero_ok.2 _ _ _ ?_ ?_)) (fun _ _ h => h) ?_ ?_ ?_; (focus kernel_rfl)))
      | ((with_reducible show CW _ _ _ _ _ _ _ _ _ _ _ _); first | refine CW.tail rfl ?_)
      | ((with_reducible show FW _ _ _ _ _ _ _ _ _ _); first | (refine FW.float rfl rfl rfl rfl rfl ?_))
      | ((with_reducible show AW _ _ _ _); first | ((show AW _ (.region _ _ false) _ _); refine kp ?_; refine AW.region ?_) | ((show AW _ (.region _ _ true) _ _); refine kp ?_; refine AW.calm false [] [] hmix ?hpan ?hchkc rfl ?_; (case hchkc => (as_aux_lemma => kernel_rfl)); (case hpan => (first | assumption | exact panOk_end | exact panOk_endM | exact panOk_then (by first | assumption | exact panOk_end | exact panOk_endM) | exact panOk_block (by assumption)))))) <;> (try ((first | with_reducible (first | show AWL _ _ _ _ _ | show AW _ _ _ _ | show FW _ _ _ _ _ _ _ _ _ _ | show CW _ _ _ _ _ _ _ _ _ _ _ _) | (rintro _ _ ⟨rfl, rfl⟩; (try refine And.intro rfl ?_))); (try (conv => arg -1; simp (disch := omega) only [NM, Nat.reduceBEq, reduceAdd, reduceMul, Int.reduceToNat, reduceSub, List.set_cons_zero, List.set_cons_succ, nx])))))
    | ((with_reducible show AW _ _ _ _); first | (refine AW.cond rfl (fun hc => ?_) (fun hc => ?_) <;> first | (cases hc; done) | ((try simp only [HCX] at hc); (try (exfalso; omega)); (try (guard_hyp hc : True; clear hc)))))
    | ((with_reducible show True); exact trivial) | ((with_reducible show FitV _ _ _ _ _ _); (repeat' (first | exact trivial | exact Or.inr (Or.inl rfl) | exact Or.inl rfl | exact Or.inr (Or.inr rfl) | refine And.intro ?_ ?_)); done) | ((with_reducible show newKs _ _ _ = true); kernel_rfl)
    | ((refine EndQ.mk rfl rfl rfl ?_ ?_ ?_; (focus (first | exact Or.inl rfl | exact Or.inr rfl))) <;> (try simp (disch := omega) only [NM, Nat.reduceBEq, reduceAdd, reduceMul, Int.reduceToNat, reduceSub, List.set_cons_zero, List.set_cons_succ, nx]))
    | exact sd
    | fail)
  all_goals (try clear nx)
  all_goals (apply_rules (newGoals := .nonDependentOnly) only [dep])
  all_goals constructor) : p := h
theorem stc8a5cc {p : Prop} (h : p := by
  repeat' (first
    | ((with_reducible show AW _ _ _ _); first | ((first | refine AW.seqA ?_ | refine AW.blockA ?_); intro Qn hQn hPn))
    | ((with_reducible first | show AWL _ _ _ _ _ | show AW _ _ _ _); (first | refine AWL.nil ?_ | refine AW.skip ?_ | refine AW.ret ?_ | refine AW.exit ?_); (repeat (first | refine QEq.mp (by assumption) ?_ | simp only [thenQ, Go.Abs.blockQ, ↓reduceIte, Nat.reduceEqDiff])))
    | ((first
      | ((with_reducible show AWL _ _ _ _ _); first | refine AWL.opN (sl := SL) rfl rfl rfl trivial ?_ | (refine AWL.op (sl := SL) rfl rfl ?_ ?_) | refine' cl)
      | ((with_reducible show AW _ _ _ _); first | ((show AW _ (.region _ _ false) _ _); refine kp ?_; refine AW.region ?_))) <;> (try ((first | with_reducible (first | show AWL _ _ _ _ _ | show AW _ _ _ _ | show DQ _ _ _ _ _ _) | (rintro _ _ ⟨rfl, rfl⟩; (try refine And.intro rfl ?_))); (try (conv => arg -1; simp (disch := omega) only [NM, Nat.reduceBEq, reduceAdd, reduceMul, Int.reduceToNat, reduceSub, List.set_cons_zero, List.set_cons_succ, nx])))))
    | ((with_reducible show AW _ _ _ _); first | (refine AW.cond rfl (fun hc => ?_) (fun hc => ?_) <;> first | (cases hc; done) | ((try simp only [HCX] at hc); (try (exfalso; omega)); (try (guard_hyp hc : True; clear hc)))))
    | ((with_reducible show True); exact trivial)
    | ((refine EndQ.mk rfl rfl rfl ?_ ?_ ?_; (focus (first | exact Or.inl rfl | exact Or.inr rfl))) <;> (try simp (disch := omega) only [NM, Nat.reduceBEq, reduceAdd, reduceMul, Int.reduceToNat, reduceSub, List.set_cons_zero, List.set_cons_succ, nx]))
    | exact sd
    | fail)
  all_goals (try clear nx)
  all_goals (apply_rules (newGoals := .nonDependentOnly) only [dep])
  all_goals constructor) : p := h
theorem std414a9 {p : Prop} (h : p := by
  repeat' (first
    | ((with_reducible show AW _ _ _ _); first | ((first | refine AW.seqA ?_ | refine AW.blockA ?_); intro Qn hQn hPn))
    | ((with_reducible first | show AWL _ _ _ _ _ | show AW _ _ _ _); (first | refine AWL.nil ?_ | refine AW.skip ?_ | refine AW.ret ?_ | refine AW.exit ?_); (repeat (first | refine QEq.mp (by assumption) ?_ | simp only [thenQ, Go.Abs.blockQ, ↓reduceIte, Nat.reduceEqDiff])))
    | ((first
      | ((with_reducible show AWL _ _ _ _ _); first | refine AWL.opN (sl := SL) rfl rfl rfl trivial ?_ | (refine AWL.boxF (t := 82) rfl rfl rfl rfl rfl ?_) | (refine AWL.allocF (t := 82) rfl rfl rfl rfl rfl rfl ?_) | (refine AWL.op (sl := SL) rfl rfl ?_ ?_) | (refine AWL.guard2 rfl rfl rfl rfl rfl rfl ?_ ?_ <;> (intro hc; (try simp only [Bool.not_true, Bool.not_false] at hc); first | (cases hc; done) | ((try simp only [hc]); (try simp only [HCX] at hc); (try (exfalso; omega)); (try (guard_hyp hc : True; clear hc))))) | refine AWL.guardU rfl rfl rfl rfl rfl rfl ?_ | refine' cl)
      | ((with_reducible show AW _ _ _ _); first | ((show AW _ (.region _ _ false) _ _); refine kp ?_; refine AW.region ?_))) <;> (try ((first | with_reducible (first | show AWL _ _ _ _ _ | show AW _ _ _ _ | show DQ _ _ _ _ _ _) | (rintro _ _ ⟨rfl, rfl⟩; (try refine And.intro rfl ?_))); (try (conv => arg -1; simp (disch := omega) only [NM, Nat.reduceBEq, reduceAdd, reduceMul, Int.reduceToNat, reduceSub, List.set_cons_zero, List.set_cons_succ, nx])))))
    | ((with_reducible show AW _ _ _ _); first | (refine AW.cond rfl (fun hc => ?_) (fun hc => ?_) <;> first | (cases hc; done) | ((try simp only [HCX] at hc); (try (exfalso; omega)); (try (guard_hyp hc : True; clear hc)))))
    | ((with_reducible show True); exact trivial)
    | ((refine EndQ.mk rfl rfl rfl ?_ ?_ ?_; (focus (first | exact Or.inl rfl | exact Or.inr rfl))) <;> (try simp (disch := omega) only [NM, Nat.reduceBEq, reduceAdd, reduceMul, Int.reduceToNat, reduceSub, List.set_cons_zero, List.set_cons_succ, nx]))
    | exact sd
    | fail)
  all_goals (try clear nx)
  all_goals (apply_rules (newGoals := .nonDependentOnly) only [dep])
  all_goals constructor) : p := h
theorem stf0f69d {p : Prop} (h : p := by
  repeat' (first
    | ((with_reducible show AW _ _ _ _); first | ((first | refine AW.seqA ?_ | refine AW.blockA ?_); intro Qn hQn hPn))
    | ((with_reducible first | show AWL _ _ _ _ _ | show AW _ _ _ _); (first | refine AWL.nil ?_ | refine AW.skip ?_ | refine AW.ret ?_ | refine AW.exit ?_); (repeat (first | refine QEq.mp (by assumption) ?_ | simp only [thenQ, Go.Abs.blockQ, ↓reduceIte, Nat.reduceEqDiff])))
    | ((first
      | ((with_reducible show AWL _ _ _ _ _); first | refine AWL.opN (sl := SL) rfl rfl rfl trivial ?_ | (refine AWL.boxF (t := 82) rfl rfl rfl rfl rfl ?_) | (refine AWL.allocF (t := 82) rfl rfl rfl rfl rfl rfl ?_) | (refine AWL.op (sl := SL) rfl rfl ?_ ?_) | (refine AWL.ptrNil rfl rfl rfl rfl rfl rfl (by kernel_rfl) ?_) | (refine AWL.sliceNil rfl rfl rfl rfl rfl (by kernel_rfl) ?_ ?_; (focus (first | exact trivial | exact numsZ)); (intro r hr; cases r <;> first | (have hr := hr rfl) | (clear hr))) | refine' cl)
      | ((with_reducible show AW _ _ _ _); first | ((show AW _ (.region _ _ false) _ _); refine kp ?_; refine AW.region ?_))) <;> (try ((first | with_reducible (first | show AWL _ _ _ _ _ | show AW _ _ _ _ | show DQ _ _ _ _ _ _) | (rintro _ _ ⟨rfl, rfl⟩; (try refine And.intro rfl ?_))); (try (conv => arg -1; simp (disch := omega) only [NM, Nat.reduceBEq, reduceAdd, reduceMul, Int.reduceToNat, reduceSub, List.set_cons_zero, List.set_cons_succ, nx])))))
    | ((with_reducible show AW _ _ _ _); first | (refine AW.cond rfl (fun hc => ?_) (fun hc => ?_) <;> first | (cases hc; done) | ((try simp only [HCX] at hc); (try (exfalso; omega)); (try (guard_hyp hc : True; clear hc)))))
    | ((with_reducible show True); exact trivial)
    | ((refine EndQ.mk rfl rfl rfl ?_ ?_ ?_; (focus (first | exact Or.inl rfl | exact Or.inr rfl))) <;> (try simp (disch := omega) only [NM, Nat.reduceBEq, reduceAdd, reduceMul, Int.reduceToNat, reduceSub, List.set_cons_zero, List.set_cons_succ, nx]))
    | exact sd
    | fail)
  all_goals (try clear nx)
  all_goals (apply_rules (newGoals := .nonDependentOnly) only [dep])
  all_goals constructor) : p := h
theorem stf26771 {p : Prop} (h : p := by
  repeat' (first
    | ((with_reducible show AW _ _ _ _); first | ((first | refine AW.seqA ?_ | refine AW.blockA ?_); intro Qn hQn hPn))
    | ((with_reducible first | show AWL _ _ _ _ _ | show AW _ _ _ _); (first | refine AWL.nil ?_ | refine AW.skip ?_ | refine AW.ret ?_ | refine AW.exit ?_); (repeat (first | refine QEq.mp (by assumption) ?_ | simp only [thenQ, Go.Abs.blockQ, ↓reduceIte, Nat.reduceEqDiff])))
    | ((first
      | ((with_reducible show AWL _ _ _ _ _); first | refine AWL.opN (sl := SL) rfl rfl rfl trivial ?_ | (refine AWL.boxF (t := 82) rfl rfl rfl rfl rfl ?_) | (refine AWL.op (sl := SL) rfl rfl ?_ ?_) | (refine AWL.guard2 rfl rfl rfl rfl rfl rfl ?_ ?_ <;> (intro hc; (try simp only [Bool.not_true, Bool.not_false] at hc); first | (cases hc; done) | ((try simp only [hc]); (try simp only [HCX] at hc); (try (exfalso; omega)); (try (guard_hyp hc : True; clear hc))))) | refine AWL.guardU rfl rfl rfl rfl rfl rfl ?_ | refine' cl)
      | ((with_reducible show AW _ _ _ _); first | ((show AW _ (.region _ _ false) _ _); refine kp ?_; refine AW.region ?_))) <;> (try ((first | with_reducible (first | show AWL _ _ _ _ _ | show AW _ _ _ _ | show DQ _ _ _ _ _ _) | (rintro _ _ ⟨rfl, rfl⟩; (try refine And.intro rfl ?_))); (try (conv => arg -1; simp (disch := omega) only [NM, Nat.reduceBEq, reduceAdd, reduceMul, Int.reduceToNat, reduceSub, List.set_cons_zero, List.set_cons_succ, nx])))))
    | ((with_reducible show AW _ _ _ _); first | (refine AW.cond rfl (fun hc => ?_) (fun hc => ?_) <;> first | (cases hc; done) | ((try simp only [HCX] at hc); (try (exfalso; omega)); (try (guard_hyp hc : True; clear hc)))))
    | ((with_reducible show True); exact trivial)
    | ((refine EndQ.mk rfl rfl rfl ?_ ?_ ?_; (focus (first | exact Or.inl rfl | exact Or.inr rfl))) <;> (try simp (disch := omega) only [NM, Nat.reduceBEq, reduceAdd, reduceMul, Int.reduceToNat, reduceSub, List.set_cons_zero, List.set_cons_succ, nx]))
    | exact sd
    | fail)
  all_goals (try clear nx)
  all_goals (apply_rules (newGoals := .nonDependentOnly) only [dep])
  all_goals constructor) : p := h
theorem stf60db7 {p : Prop} (h : p := by
  repeat' (first
    | ((with_reducible show AW _ _ _ _); first | ((first | refine AW.seqA ?_ | refine AW.blockA ?_); intro Qn hQn hPn))
    | ((with_reducible first | show AWL _ _ _ _ _ | show AW _ _ _ _); (first | refine AWL.nil ?_ | refine AW.skip ?_ | refine AW.ret ?_ | refine AW.exit ?_); (repeat (first | refine QEq.mp (by assumption) ?_ | simp only [thenQ, Go.Abs.blockQ, ↓reduceIte, Nat.reduceEqDiff])))
    | ((first
      | ((with_reducible show AWL _ _ _ _ _); first | refine AWL.frzSt 7005 rfl rfl ?_ | refine AWL.opN (sl := SL) rfl rfl rfl trivial ?_ | (refine AWL.op (sl := SL) rfl rfl ?_ ?_) | (refine AWL.ptrNil rfl rfl rfl rfl rfl rfl (by kernel_rfl) ?_) | (refine AWL.sliceNil rfl rfl rfl rfl rfl (by kernel_rfl) ?_ ?_; (focus (first | exact trivial | exact numsZ)); (intro r hr; cases r <;> first | (have hr := hr rfl) | (clear hr))) | (refine AWL.guard2 rfl rfl rfl rfl rfl rfl ?_ ?_ <;> (intro hc; (try simp only [Bool.not_true, Bool.not_false] at hc); first | (cases hc; done) | ((try simp only [hc]); (try simp only [HCX] at hc); (try (exfalso; omega)); (try (guard_hyp hc : True; clear hc))))) | refine AWL.guardU rfl rfl rfl rfl rfl rfl ?_ | refine' cl)
      | ((with_reducible show AW _ _ _ _); first | ((show AW _ (.region _ _ false) _ _); refine kp ?_; refine AW.region ?_))) <;> (try ((first | with_reducible (first | show AWL _ _ _ _ _ | show AW _ _ _ _ | show DQ _ _ _ _ _ _) | (rintro _ _ ⟨rfl, rfl⟩; (try refine And.intro rfl ?_))); (try (conv => arg -1; simp (disch := omega) only [NM, Nat.reduceBEq, reduceAdd, reduceMul, Int.reduceToNat, reduceSub, List.set_cons_zero, List.set_cons_succ, nx])))))
    | ((with_reducible show AW _ _ _ _); first | (refine AW.cond rfl (fun hc => ?_) (fun hc => ?_) <;> first | (cases hc; done) | ((try simp only [HCX] at hc); (try (exfalso; omega)); (try (guard_hyp hc : True; clear hc)))))
    | ((with_reducible show True); exact trivial)
    | ((refine EndQ.mk rfl rfl rfl ?_ ?_ ?_; (focus (first | exact Or.inl rfl | exact Or.inr rfl))) <;> (try simp (disch := omega) only [NM, Nat.reduceBEq, reduceAdd, reduceMul, Int.reduceToNat, reduceSub, List.set_cons_zero, List.set_cons_succ, nx]))
    | exact sd
    | fail)
  all_goals (try clear nx)
  all_goals (apply_rules (newGoals := .nonDependentOnly) only [dep])
  all_goals constructor) : p := h
end Go.Abs
