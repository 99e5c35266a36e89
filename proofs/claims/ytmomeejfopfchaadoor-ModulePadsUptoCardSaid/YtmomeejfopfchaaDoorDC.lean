/- Step lists. -/
import Derived.Test.YtmomeejfopfchaaDoorGTabs
set_option linter.unusedSimpArgs false
set_option linter.unusedVariables false
namespace Go.Abs
open Go Go.RowKit
theorem sd1dcd80 {p : Prop} (h : p := by first
  | (focus ((first | exact trivial | omega | assumption | ((first | refine ld_nums i3 _ _ ?_ | refine ld_nums i5 _ _ ?_ | refine at_nums i3 _ _ ?_ | refine at_nums i5 _ _ ?_); first | assumption | omega | (simp only [List.length_append]; omega)) | exact byte_str2 hbw | (show _ <= _; omega) | (simp only [List.length_take, List.length_drop, List.length_append, List.length_cons, List.length_nil]; omega) | ((repeat' (first | exact trivial | exact rfl | exact Nat.le_of_ble_eq_true rfl | refine And.intro ?_ ?_ | fail)); done) | ((try simp (disch := omega) only [NM, Nat.reduceBEq, reduceAdd, reduceMul, Int.reduceToNat, reduceSub, List.set_cons_zero, List.set_cons_succ, nx]); (repeat' (first | exact trivial | exact rfl | exact ⟨_, _, rfl⟩ | exact ⟨_, rfl⟩ | exact Nat.le_of_ble_eq_true rfl | exact Nat.zero_lt_succ _ | omega | (simp only [List.length_append]; omega) | (simp only [nums_length] at *; omega) | refine And.intro ?_ ?_ | fail)); done)); done))
  | fail) : p := h
theorem st0adab4 {p : Prop} (h : p := by
  repeat' (first
    | ((with_reducible show AW _ _ _ _); first | ((first | refine AW.seqA ?_ | refine AW.blockA ?_); intro Qn hQn hPn))
    | ((with_reducible first | show AWL _ _ _ _ _ | show AW _ _ _ _); (first | refine AWL.nil ?_ | refine AW.skip ?_ | refine AW.ret ?_ | refine AW.exit ?_); (repeat (first | refine QEq.mp (by assumption) ?_ | simp only [thenQ, Go.Abs.blockQ, ↓reduceIte, Nat.reduceEqDiff])))
    | ((first
      | ((with_reducible show AWL _ _ _ _ _); first | refine AWL.opN (sl := SL) rfl rfl rfl trivial ?_ | (refine AWL.op (sl := SL) rfl rfl ?_ ?_) | (refine AWL.ptrNil rfl rfl rfl rfl rfl rfl (by kernel_rfl) ?_) | (refine AWL.sliceNil rfl rfl rfl rfl rfl (by kernel_rfl) ?_ ?_; (focus (first | exact trivial | exact numsZ)); (intro r hr; cases r <;> first | (have hr := hr rfl) | (clear hr))) | (refine AWL.guard2 rfl rfl rfl rfl rfl rfl ?_ ?_ <;> (intro hc; (try simp only [Bool.not_true, Bool.not_false] at hc); first | (cases hc; done) | ((try simp only [hc]); (try simp only [HCX] at hc); (try (exfalso; omega)); (try (guard_hyp hc : True; clear hc))))) | refine AWL.guardU rfl rfl rfl rfl rfl rfl ?_ | refine' cl)
      | ((with_reducible show AW _ _ _ _); first | ((show AW _ (.region _ _ false) _ _); refine kp ?_; refine AW.region ?_))) <;> (try ((first | with_reducible (first | show AWL _ _ _ _ _ | show AW _ _ _ _ | show DQ _ _ _ _ _ _) | (rintro _ _ ⟨⟩; done) | (rintro _ _ ⟨rfl, rfl⟩; (try refine And.intro rfl ?_) ; (try refine And.intro ⟨nvsB_spec rfl, (by repeat' (first | exact nvm_nil | refine nvm_cons ?_ ?_ | exact nv_nums _ _ | exact nv_all rfl))⟩ ?_))); (try (conv => arg -1; simp (disch := omega) only [NM, Nat.reduceBEq, reduceAdd, reduceMul, Int.reduceToNat, reduceSub, List.set_cons_zero, List.set_cons_succ, nx])))))
    | ((with_reducible show AW _ _ _ _); first | (refine AW.cond rfl (fun hc => ?_) (fun hc => ?_) <;> first | (cases hc; done) | ((try simp only [HCX] at hc); (try (exfalso; omega)); (try (guard_hyp hc : True; clear hc)))))
    | ((with_reducible show True); exact trivial)
    | ((refine EndQ.mk rfl rfl rfl ?_ ?_ ?_; (focus (first | exact Or.inl rfl | exact Or.inr rfl))) <;> (try simp (disch := omega) only [NM, Nat.reduceBEq, reduceAdd, reduceMul, Int.reduceToNat, reduceSub, List.set_cons_zero, List.set_cons_succ, nx]))
    | exact sd
    | fail)
  all_goals (try clear nx)
  all_goals (apply_rules (newGoals := .nonDependentOnly) only [dep])
  all_goals constructor) : p := h
theorem stf6b23e {p : Prop} (h : p := by
  repeat' (first
    | ((with_reducible show AW _ _ _ _); first | ((first | refine AW.seqA ?_ | refine AW.blockA ?_); intro Qn hQn hPn))
    | ((with_reducible first | show AWL _ _ _ _ _ | show AW _ _ _ _); (first | refine AWL.nil ?_ | refine AW.skip ?_ | refine AW.ret ?_ | refine AW.exit ?_); (repeat (first | refine QEq.mp (by assumption) ?_ | simp only [thenQ, Go.Abs.blockQ, ↓reduceIte, Nat.reduceEqDiff])))
    | ((first
      | ((with_reducible show AWL _ _ _ _ _); first | refine AWL.opN (sl := SL) rfl rfl rfl trivial ?_ | (refine AWL.op (sl := SL) rfl rfl ?_ ?_) | (refine AWL.ptrNil rfl rfl rfl rfl rfl rfl (by kernel_rfl) ?_) | (refine AWL.sliceNil rfl rfl rfl rfl rfl (by kernel_rfl) ?_ ?_; (focus (first | exact trivial | exact numsZ)); (intro r hr; cases r <;> first | (have hr := hr rfl) | (clear hr))) | (refine AWL.guard2 rfl rfl rfl rfl rfl rfl ?_ ?_ <;> (intro hc; (try simp only [Bool.not_true, Bool.not_false] at hc); first | (cases hc; done) | ((try simp only [hc]); (try simp only [HCX] at hc); (try (exfalso; omega)); (try (guard_hyp hc : True; clear hc))))) | refine AWL.guardU rfl rfl rfl rfl rfl rfl ?_)
      | ((with_reducible show AW _ _ _ _); first | ((show AW _ (.region _ _ false) _ _); refine kp ?_; refine AW.region ?_))) <;> (try ((first | with_reducible (first | show AWL _ _ _ _ _ | show AW _ _ _ _ | show DQ _ _ _ _ _ _) | (rintro _ _ ⟨⟩; done) | (rintro _ _ ⟨rfl, rfl⟩; (try refine And.intro rfl ?_))); (try (conv => arg -1; simp (disch := omega) only [NM, Nat.reduceBEq, reduceAdd, reduceMul, Int.reduceToNat, reduceSub, List.set_cons_zero, List.set_cons_succ, nx])))))
    | ((with_reducible show AW _ _ _ _); first | (refine AW.cond rfl (fun hc => ?_) (fun hc => ?_) <;> first | (cases hc; done) | ((try simp only [HCX] at hc); (try (exfalso; omega)); (try (guard_hyp hc : True; clear hc)))))
    | ((with_reducible show True); exact trivial)
    | ((refine EndQ.mk rfl rfl rfl ?_ ?_ ?_; (focus (first | exact Or.inl rfl | exact Or.inr rfl))) <;> (try simp (disch := omega) only [NM, Nat.reduceBEq, reduceAdd, reduceMul, Int.reduceToNat, reduceSub, List.set_cons_zero, List.set_cons_succ, nx]))
    | exact sd
    | fail)
  all_goals (try clear nx)
  all_goals (apply_rules (newGoals := .nonDependentOnly) only [dep])
  all_goals constructor) : p := h
end Go.Abs
