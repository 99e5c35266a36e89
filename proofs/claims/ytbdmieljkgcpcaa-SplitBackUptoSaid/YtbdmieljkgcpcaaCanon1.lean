/- Canon's function. -/
import Derived.Test.YtbdmieljkgcpcaaV4
import Derived.Test.YtbdmieljkgcpcaaEqual
namespace Go.Proofs.Ytbdmieljkgcpcaa
set_option linter.unusedSimpArgs false
set_option linter.unusedVariables false
open Go Go.Abs
attribute [local irreducible] AW AWL AC DQ IntKind.wrap

set_option maxHeartbeats 800000 in
theorem canon1_ok (s : Sg) (ts : List Sg) (k : Nat) (hk : k < ts.length) (hs : s.1.length * 16 ≤ 140737488351232 ∧ s.2.length * 16 ≤ 140737488351232) :
    AC Try.prog 29 [.fagg [.view s.1.length 1 (nums .i64 s.1), .view s.2.length 1 (nums .i64 s.2)], .vptr (modC ts.length ts), .vptr [.int .i64 k]] (fun r m => r = .bool (decide (s.1 = (ts.getD k ([], [])).1) && decide (s.2 = (ts.getD k ([], [])).2)) ∧ m = []) := by
  have hd := sig_drop ts k hk
  refine AC.enter Try.func29 rfl (Nat.le_of_ble_eq_true rfl) ?_
  simp only [Try.f29]
  repeat' (first
    | refine AW.seq ?_
    | refine AW.block ?_
    | refine AW.region ?_
    | (refine AW.skip ?_; (try simp only [thenQ, blockQ, ↓reduceIte, Nat.reduceEqDiff]))
    | (refine AW.ret ?_; (try simp only [thenQ, blockQ, ↓reduceIte, Nat.reduceEqDiff]))
    | (refine AW.exit ?_; (try simp only [thenQ, blockQ, ↓reduceIte, Nat.reduceEqDiff]))
    | (refine AWL.nil ?_; (try simp only [thenQ, blockQ, ↓reduceIte, Nat.reduceEqDiff]))
    | (refine DQ.nil ?_; (try simp only [thenQ, blockQ, ↓reduceIte, Nat.reduceEqDiff]))
    | ((first
      | (refine AWL.op (sl := SL) rfl rfl ?_ ?_)
      | (refine DQ.op rfl rfl rfl rfl rfl ?_ ?_)
      | (refine DQ.yes rfl ?_ ?_)
      | (refine DQ.step rfl rfl rfl rfl (QStep.assign rfl) ?_)
      | (refine AWL.frzA rfl rfl ?_)
      | (refine AWL.callV (f := 30) rfl rfl rfl rfl ?_ (Nat.le_of_ble_eq_true rfl) rfl (equal_at _ _ _ _ ?_ ?_ ?_) ?_; (focus kernel_rfl))
      | (refine AWL.call (f := 30) rfl rfl rfl ?_ rfl (Nat.le_of_ble_eq_true rfl) rfl (equal_at _ _ _ _ ?_ ?_ ?_) ?_; (focus kernel_rfl))
      | (refine CWr.call (f := 30) rfl ?_ rfl (equal_at _ _ _ _ ?_ ?_ ?_) (fun _ _ h => h) ?_ ?_ ?_; (focus kernel_rfl))
      | (refine DQ.step rfl rfl rfl rfl (QStep.call (f := 30) rfl ?_ rfl (equal_at _ _ _ _ ?_ ?_ ?_) (fun _ _ h => h) (fun _ => rfl)) ?_; (focus kernel_rfl))
      | (refine DQ.yesC (QStep.call (f := 30) rfl ?_ rfl (equal_at _ _ _ _ ?_ ?_ ?_) (fun _ _ h => h) (fun _ => rfl)) ?_; (focus kernel_rfl))
      | fail) <;> (first | ((first | show AWL _ _ _ _ _ | show DQ _ _ _ _ _ _ | show AW _ _ _ _ | (rintro _ _ ⟨rfl, rfl⟩; (try refine And.intro rfl ?_))); (try simp (disch := omega) only [NS, Nat.reduceBEq, Nat.reduceAdd, Nat.reduceMul, TY, slx, modC, hd])) | (focus ((first | exact trivial | omega | exact ld_nums i3 _ _ (by first | assumption | omega | (simp only [List.length_append, offsTo_len]; omega)) | (show _ ≤ _; omega) | (simp only [List.length_take, List.length_drop, List.length_append, List.length_cons, List.length_nil]; omega) | ((repeat' (first | exact trivial | exact rfl | exact Nat.le_of_ble_eq_true rfl | refine And.intro ?_ ?_ | fail)); done) | ((try simp (disch := omega) only [NS, Nat.reduceBEq, Nat.reduceAdd, Nat.reduceMul, TY, slx, modC, hd]); (repeat' (first | exact trivial | exact rfl | exact ⟨_, _, rfl⟩ | exact ⟨_, rfl⟩ | exact Nat.le_of_ble_eq_true rfl | exact Nat.zero_lt_succ _ | omega | refine And.intro ?_ ?_ | fail)); done)); done))))
    | (refine AWL.guard2 rfl rfl rfl rfl rfl rfl ?_ ?_ <;> (intro hc; (try simp only [Bool.not_true, Bool.not_false] at hc); first | (cases hc; done) | ((try simp only [hc]); (try simp only [beq_iff_eq, bne_iff_ne, decide_eq_true_eq, decide_eq_false_iff_not, beq_eq_false_iff_ne, bne_eq_false_iff_eq, ne_eq, Bool.not_eq_true, Bool.not_eq_false, Bool.not_eq_eq_eq_not, Bool.not_true, Bool.not_false, Decidable.not_not, Int.not_lt, Int.not_le] at hc); (try (exfalso; omega)); (try (guard_hyp hc : True; clear hc)))))
    | (refine AWL.guard2 rfl rfl rfl rfl rfl rfl (fun hc => ?_) ?_; (cases hc; done))
    | (refine AW.drawn false hmix ?_ ?_; (focus kernel_rfl))
    | (refine AWL.guardU rfl rfl rfl rfl rfl rfl ?_; (try simp (disch := omega) only [NS, Nat.reduceBEq, Nat.reduceAdd, Nat.reduceMul, TY, slx, modC, hd]))
    | (refine DQ.guardU rfl rfl rfl rfl rfl rfl rfl ?_; (try simp (disch := omega) only [NS, Nat.reduceBEq, Nat.reduceAdd, Nat.reduceMul, TY, slx, modC, hd]))
    | refine DQ.tail rfl ?_
    | (refine DQ.guard2 rfl rfl rfl rfl rfl rfl rfl ?_ ?_ <;> (intro hc; (try simp only [Bool.not_true, Bool.not_false] at hc); first | (cases hc; done) | ((try simp only [hc]); (try simp only [beq_iff_eq, bne_iff_ne, decide_eq_true_eq, decide_eq_false_iff_not, beq_eq_false_iff_ne, bne_eq_false_iff_eq, ne_eq, Bool.not_eq_true, Bool.not_eq_false, Bool.not_eq_eq_eq_not, Bool.not_true, Bool.not_false, Decidable.not_not, Int.not_lt, Int.not_le] at hc); (try (exfalso; omega)); (try (guard_hyp hc : True; clear hc)))))
    | (refine AW.cond rfl (fun hc => ?_) (fun hc => ?_) <;> first | (cases hc; done) | ((try simp only [beq_iff_eq, bne_iff_ne, decide_eq_true_eq, decide_eq_false_iff_not, beq_eq_false_iff_ne, bne_eq_false_iff_eq, ne_eq, Bool.not_eq_true, Bool.not_eq_false, Bool.not_eq_eq_eq_not, Bool.not_true, Bool.not_false, Decidable.not_not, Int.not_lt, Int.not_le] at hc); (try (exfalso; omega)); (try (guard_hyp hc : True; clear hc))))
    | (refine EndQ.mk rfl rfl rfl ?_ ?_ ?_; (focus (first | exact Or.inl rfl | exact Or.inr rfl)); (focus ((first | exact trivial | omega | exact ld_nums i3 _ _ (by first | assumption | omega | (simp only [List.length_append, offsTo_len]; omega)) | (show _ ≤ _; omega) | (simp only [List.length_take, List.length_drop, List.length_append, List.length_cons, List.length_nil]; omega) | ((repeat' (first | exact trivial | exact rfl | exact Nat.le_of_ble_eq_true rfl | refine And.intro ?_ ?_ | fail)); done) | ((try simp (disch := omega) only [NS, Nat.reduceBEq, Nat.reduceAdd, Nat.reduceMul, TY, slx, modC, hd]); (repeat' (first | exact trivial | exact rfl | exact ⟨_, _, rfl⟩ | exact ⟨_, rfl⟩ | exact Nat.le_of_ble_eq_true rfl | exact Nat.zero_lt_succ _ | omega | refine And.intro ?_ ?_ | fail)); done)); done)); (try simp (disch := omega) only [NS, Nat.reduceBEq, Nat.reduceAdd, Nat.reduceMul, TY, slx, modC, hd]))
    | fail)
  all_goals exact ⟨trivial, trivial⟩
theorem canon1_at (s : Sg) (ts : List Sg) (k : Nat) (hk : k < ts.length) (hs : s.1.length * 16 ≤ 140737488351232 ∧ s.2.length * 16 ≤ 140737488351232) :
    AC Try.prog 29 [.fagg [.view s.1.length 1 (nums .i64 s.1), .view s.2.length 1 (nums .i64 s.2)], .vptr (modC ts.length ts), .vptr [.int .i64 k]] (fun r m => r = .bool (decide (s = ts.getD k ([], []))) ∧ m = []) := by
  rw [← sg_eq]; exact canon1_ok s ts k hk hs
end Go.Proofs.Ytbdmieljkgcpcaa
