/- the document's find, width. -/
import Derived.Test.YtgmhfbdmigfgbaaV5
import Derived.Test.YtgmhfbdmigfgbaaLane
namespace Go.Proofs.Ytgmhfbdmigfgbaa
set_option linter.unusedSimpArgs false
set_option linter.unusedVariables false
open Go Go.Abs
attribute [local irreducible] AW AWL AC FW CW CWr IntKind.wrap

def F27 (op a b c d i : Int) : St := { n := 17, slots := [(0, .int .i64 op), (3, .ptr 3 0), (4, .int .i64 0), (5, .int .i64 i)], mem := [(3, ⟨true, [.int .i64 a, .int .i64 b, .int .i64 c, .int .i64 d]⟩)] }
def F28 (i w k : Int) : St := { n := 13, slots := [(0, .int .i64 i), (2, .int .i64 0), (3, .int .i64 w), (4, .int .i64 k)], mem := [] }
def findS (op a b c d : Int) : Int := if op = 64768 + a then 0 else if op = 64768 + b then 1 else if op = 64768 + c then 2 else if op = 64768 + d then 3 else -1
set_option maxHeartbeats 3200000 in
theorem find_ok (op a b c d : Int) (ha : 0 ≤ a ∧ a ≤ 100) (hb : 0 ≤ b ∧ b ≤ 100) (hc' : 0 ≤ c ∧ c ≤ 100) (hd : 0 ≤ d ∧ d ≤ 100) : AC Try.prog 27 [.int .i64 op, .agg [.int .i64 a, .int .i64 b, .int .i64 c, .int .i64 d]] (fun r m => r = .int .i64 (findS op a b c d) ∧ m = []) := by
  have wa : IntKind.i64.wrap (64768 + a) = 64768 + a := wrap64_id _ (by omega) (by omega)
  have wb : IntKind.i64.wrap (64768 + b) = 64768 + b := wrap64_id _ (by omega) (by omega)
  have wc : IntKind.i64.wrap (64768 + c) = 64768 + c := wrap64_id _ (by omega) (by omega)
  have wd : IntKind.i64.wrap (64768 + d) = 64768 + d := wrap64_id _ (by omega) (by omega)
  refine AC.enter Try.func27 rfl (Nat.le_of_ble_eq_true rfl) ?_
  simp only [Try.f27]
  have hchk : True := by simp only [TY, slx, take16, drop16, dz, nums_length, F27, F28]
  repeat' (first
    | (refine AWL.opN (sl := SL) rfl rfl rfl trivial ?_; (try (conv => arg -1; simp (disch := omega) only [NSX, Nat.reduceBEq, Nat.reduceAdd, Nat.reduceMul, Int.reduceToNat, Nat.reduceSub, TY, slx, take16, drop16, dz, nums_length, F27, F28])))
    | (refine AW.seqQ ?_; intro Qn hQn)
    | (refine AW.blockQ ?_; intro Qn hQn)
    | refine AW.region ?_
    | ((first | refine AW.skip ?_ | refine AW.ret ?_ | refine AW.exit ?_ | refine AWL.nil ?_ | refine CW.nil ?_); (repeat (first | refine QEq.mp (by assumption) ?_ | simp only [thenQ, Go.Abs.blockQ, ↓reduceIte, Nat.reduceEqDiff])))
    | refine FW.nil ?_
    | refine FW.pass rfl rfl ?_
    | refine FW.go rfl ?_
    | refine CW.skip rfl rfl ?_
    | refine CW.step rfl rfl rfl rfl rfl ?_
    | ((first
      | (refine AWL.boxF (t := 39) rfl rfl rfl rfl rfl ?_)
      | (refine AWL.allocF (t := 39) rfl rfl rfl rfl rfl rfl ?_)
      | (refine CWr.allocF (t := 39) rfl rfl rfl ?_ ?_)
      | (refine AWL.boxF (t := 26) rfl rfl rfl rfl rfl ?_)
      | (refine AWL.allocF (t := 26) rfl rfl rfl rfl rfl rfl ?_)
      | (refine CWr.allocF (t := 26) rfl rfl rfl ?_ ?_)
      | (refine AWL.op (sl := SL) rfl rfl ?_ ?_)
      | (refine FW.float rfl rfl rfl rfl rfl ?_)
      | (refine CWr.op rfl ?_ ?_ ?_)
      | (refine CWr.assign rfl ?_ ?_)
      | (refine CWr.alloc rfl rfl rfl rfl ?_)
      | (refine CWr.build rfl rfl rfl rfl ?_ rfl rfl rfl ?_)
      | fail) <;> (try ((first | show AWL _ _ _ _ _ | show AW _ _ _ _ | show FW _ _ _ _ _ _ _ _ _ _ | show CW _ _ _ _ _ _ _ _ _ _ _ _ | (rintro _ _ ⟨rfl, rfl⟩; (try refine And.intro rfl ?_))); (try (conv => arg -1; simp (disch := omega) only [NSX, Nat.reduceBEq, Nat.reduceAdd, Nat.reduceMul, Int.reduceToNat, Nat.reduceSub, TY, slx, take16, drop16, dz, nums_length, F27, F28])))))
    | ((first | refine AWL.guard2 rfl rfl rfl rfl rfl rfl ?_ ?_ | refine CW.guard2 rfl rfl rfl rfl rfl rfl rfl rfl ?_ ?_) <;> (intro hc; (try simp only [Bool.not_true, Bool.not_false] at hc); first | (cases hc; done) | ((try simp only [hc]); (try simp only [beq_iff_eq, bne_iff_ne, decide_eq_true_eq, decide_eq_false_iff_not, beq_eq_false_iff_ne, bne_eq_false_iff_eq, ne_eq, Bool.not_eq_true, Bool.not_eq_false, Bool.not_eq_eq_eq_not, Bool.not_true, Bool.not_false, Decidable.not_not, Int.not_lt, Int.not_le] at hc); (try (exfalso; omega)); (try (guard_hyp hc : True; clear hc)))))
    | (refine AWL.guard2 rfl rfl rfl rfl rfl rfl (fun hc => ?_) ?_; (cases hc; done))
    | ((first | ((show AW _ (.region _ _ true) _ _); refine AW.calm false [] [] hmix (by (repeat' (first | exact panOk_end | exact panOk_endM | refine panOk_then ?_ | refine panOk_block ?_ | refine QEq.pan (by assumption) ?_))) ?_ rfl ?_; (focus (as_aux_lemma => kernel_rfl))) | refine AWL.guardU rfl rfl rfl rfl rfl rfl ?_ | refine CW.guardU rfl rfl rfl rfl rfl rfl rfl rfl ?_); (try (conv => arg -1; simp (disch := omega) only [NSX, Nat.reduceBEq, Nat.reduceAdd, Nat.reduceMul, Int.reduceToNat, Nat.reduceSub, TY, slx, take16, drop16, dz, nums_length, F27, F28])))
    | refine CW.tail rfl ?_
    | (refine AW.cond rfl (fun hc => ?_) (fun hc => ?_) <;> first | (cases hc; done) | ((try simp only [beq_iff_eq, bne_iff_ne, decide_eq_true_eq, decide_eq_false_iff_not, beq_eq_false_iff_ne, bne_eq_false_iff_eq, ne_eq, Bool.not_eq_true, Bool.not_eq_false, Bool.not_eq_eq_eq_not, Bool.not_true, Bool.not_false, Decidable.not_not, Int.not_lt, Int.not_le] at hc); (try (exfalso; omega)); (try (guard_hyp hc : True; clear hc))))
    | ((refine EndQ.mk rfl rfl rfl ?_ ?_ ?_; (focus (first | exact Or.inl rfl | exact Or.inr rfl))) <;> (try simp (disch := omega) only [NSX, Nat.reduceBEq, Nat.reduceAdd, Nat.reduceMul, Int.reduceToNat, Nat.reduceSub, TY, slx, take16, drop16, dz, nums_length, F27, F28]))
    | (focus ((first | exact trivial | omega | (refine And.intro (by kernel_rfl) (And.intro ⟨_, (by first | exact nums_ints _ _ | rfl), (by first | exact nums_ints _ _ | rfl)⟩ (And.intro ?_ ?_)) <;> (first | rfl | assumption | (simp only [nums_length]; omega) | omega)) | (refine And.intro ?_ (And.intro ?_ ?_); (focus kernel_rfl); (focus kernel_rfl); (focus kernel_rfl)) | ((show newKs _ _ _ = true); kernel_rfl) | ((show FitV _ _ _ _ _ _); (repeat' (first | exact trivial | exact Or.inr (Or.inl rfl) | exact Or.inl rfl | exact Or.inr (Or.inr rfl) | refine And.intro ?_ ?_)); done) | assumption | ((first | refine ld_nums i3 _ _ ?_ | refine ld_nums i22 _ _ ?_ | refine ld_nums i5 _ _ ?_ | refine at_nums i3 _ _ ?_ | refine at_nums i22 _ _ ?_ | refine at_nums i5 _ _ ?_); first | assumption | omega | (simp only [List.length_append]; omega)) | (show _ ≤ _; omega) | (simp only [List.length_take, List.length_drop, List.length_append, List.length_cons, List.length_nil]; omega) | ((repeat' (first | exact trivial | exact rfl | exact Nat.le_of_ble_eq_true rfl | refine And.intro ?_ ?_ | fail)); done) | ((try simp (disch := omega) only [NSX, Nat.reduceBEq, Nat.reduceAdd, Nat.reduceMul, Int.reduceToNat, Nat.reduceSub, TY, slx, take16, drop16, dz, nums_length, F27, F28]); (repeat' (first | exact trivial | exact rfl | exact ⟨_, _, rfl⟩ | exact ⟨_, rfl⟩ | exact Nat.le_of_ble_eq_true rfl | exact Nat.zero_lt_succ _ | omega | (simp only [nums_length, toB_len] at *; omega) | refine And.intro ?_ ?_ | fail)); done)); done))
    | fail)
  refine AW.loop [0, 3, 4, 5] [3] (fun n st => ∃ k : Nat, st = F27 op a b c d k ∧ k ≤ 4 ∧ n = 4 - k ∧ (1 ≤ k → op ≠ 64768 + a) ∧ (2 ≤ k → op ≠ 64768 + b) ∧ (3 ≤ k → op ≠ 64768 + c) ∧ (4 ≤ k → op ≠ 64768 + d)) ?_ ?_
  · exact ⟨_, 0, rfl, by omega, rfl, by omega, by omega, by omega, by omega⟩
  · rintro n st ⟨k, rfl, hk, rfl, n1, n2, n3, n4⟩
    have e5 : IntKind.i64.wrap ((k : Int) + 1) = ((k + 1 : Nat) : Int) := wrap64_id _ (by omega) (by omega)
    have hk5 : k = 0 ∨ k = 1 ∨ k = 2 ∨ k = 3 ∨ k = 4 := by omega
    rcases hk5 with rfl | rfl | rfl | rfl | rfl
    all_goals (
      have hchk : True := by simp only [TY, slx, take16, drop16, dz, nums_length, F27, F28, wa, wb, wc, wd, e5]
      repeat' (first
        | (refine AWL.opN (sl := SL) rfl rfl rfl trivial ?_; (try (conv => arg -1; simp (disch := omega) only [NSX, Nat.reduceBEq, Nat.reduceAdd, Nat.reduceMul, Int.reduceToNat, Nat.reduceSub, TY, slx, take16, drop16, dz, nums_length, F27, F28, wa, wb, wc, wd, e5])))
        | (refine AW.seqQ ?_; intro Qn hQn)
        | (refine AW.blockQ ?_; intro Qn hQn)
        | refine AW.region ?_
        | ((first | refine AW.skip ?_ | refine AW.ret ?_ | refine AW.exit ?_ | refine AWL.nil ?_ | refine CW.nil ?_); (repeat (first | refine QEq.mp (by assumption) ?_ | simp only [thenQ, Go.Abs.blockQ, ↓reduceIte, Nat.reduceEqDiff])))
        | refine FW.nil ?_
        | refine FW.pass rfl rfl ?_
        | refine FW.go rfl ?_
        | refine CW.skip rfl rfl ?_
        | refine CW.step rfl rfl rfl rfl rfl ?_
        | ((first
          | (refine AWL.boxF (t := 39) rfl rfl rfl rfl rfl ?_)
          | (refine AWL.allocF (t := 39) rfl rfl rfl rfl rfl rfl ?_)
          | (refine CWr.allocF (t := 39) rfl rfl rfl ?_ ?_)
          | (refine AWL.boxF (t := 26) rfl rfl rfl rfl rfl ?_)
          | (refine AWL.allocF (t := 26) rfl rfl rfl rfl rfl rfl ?_)
          | (refine CWr.allocF (t := 26) rfl rfl rfl ?_ ?_)
          | (refine AWL.op (sl := SL) rfl rfl ?_ ?_)
          | (refine FW.float rfl rfl rfl rfl rfl ?_)
          | (refine CWr.op rfl ?_ ?_ ?_)
          | (refine CWr.assign rfl ?_ ?_)
          | (refine CWr.alloc rfl rfl rfl rfl ?_)
          | (refine CWr.build rfl rfl rfl rfl ?_ rfl rfl rfl ?_)
          | fail) <;> (try ((first | show AWL _ _ _ _ _ | show AW _ _ _ _ | show FW _ _ _ _ _ _ _ _ _ _ | show CW _ _ _ _ _ _ _ _ _ _ _ _ | (rintro _ _ ⟨rfl, rfl⟩; (try refine And.intro rfl ?_))); (try (conv => arg -1; simp (disch := omega) only [NSX, Nat.reduceBEq, Nat.reduceAdd, Nat.reduceMul, Int.reduceToNat, Nat.reduceSub, TY, slx, take16, drop16, dz, nums_length, F27, F28, wa, wb, wc, wd, e5])))))
        | ((first | refine AWL.guard2 rfl rfl rfl rfl rfl rfl ?_ ?_ | refine CW.guard2 rfl rfl rfl rfl rfl rfl rfl rfl ?_ ?_) <;> (intro hc; (try simp only [Bool.not_true, Bool.not_false] at hc); first | (cases hc; done) | ((try simp only [hc]); (try simp only [beq_iff_eq, bne_iff_ne, decide_eq_true_eq, decide_eq_false_iff_not, beq_eq_false_iff_ne, bne_eq_false_iff_eq, ne_eq, Bool.not_eq_true, Bool.not_eq_false, Bool.not_eq_eq_eq_not, Bool.not_true, Bool.not_false, Decidable.not_not, Int.not_lt, Int.not_le] at hc); (try (exfalso; omega)); (try (guard_hyp hc : True; clear hc)))))
        | (refine AWL.guard2 rfl rfl rfl rfl rfl rfl (fun hc => ?_) ?_; (cases hc; done))
        | ((first | ((show AW _ (.region _ _ true) _ _); refine AW.calm false [] [] hmix (by (repeat' (first | exact panOk_end | exact panOk_endM | refine panOk_then ?_ | refine panOk_block ?_ | refine QEq.pan (by assumption) ?_))) ?_ rfl ?_; (focus (as_aux_lemma => kernel_rfl))) | refine AWL.guardU rfl rfl rfl rfl rfl rfl ?_ | refine CW.guardU rfl rfl rfl rfl rfl rfl rfl rfl ?_); (try (conv => arg -1; simp (disch := omega) only [NSX, Nat.reduceBEq, Nat.reduceAdd, Nat.reduceMul, Int.reduceToNat, Nat.reduceSub, TY, slx, take16, drop16, dz, nums_length, F27, F28, wa, wb, wc, wd, e5])))
        | refine CW.tail rfl ?_
        | (refine AW.cond rfl (fun hc => ?_) (fun hc => ?_) <;> first | (cases hc; done) | ((try simp only [beq_iff_eq, bne_iff_ne, decide_eq_true_eq, decide_eq_false_iff_not, beq_eq_false_iff_ne, bne_eq_false_iff_eq, ne_eq, Bool.not_eq_true, Bool.not_eq_false, Bool.not_eq_eq_eq_not, Bool.not_true, Bool.not_false, Decidable.not_not, Int.not_lt, Int.not_le] at hc); (try (exfalso; omega)); (try (guard_hyp hc : True; clear hc))))
        | ((refine EndQ.mk rfl rfl rfl ?_ ?_ ?_; (focus (first | exact Or.inl rfl | exact Or.inr rfl))) <;> (try simp (disch := omega) only [NSX, Nat.reduceBEq, Nat.reduceAdd, Nat.reduceMul, Int.reduceToNat, Nat.reduceSub, TY, slx, take16, drop16, dz, nums_length, F27, F28, wa, wb, wc, wd, e5]))
        | (focus ((first | exact trivial | omega | (refine And.intro (by kernel_rfl) (And.intro ⟨_, (by first | exact nums_ints _ _ | rfl), (by first | exact nums_ints _ _ | rfl)⟩ (And.intro ?_ ?_)) <;> (first | rfl | assumption | (simp only [nums_length]; omega) | omega)) | (refine And.intro ?_ (And.intro ?_ ?_); (focus kernel_rfl); (focus kernel_rfl); (focus kernel_rfl)) | ((show newKs _ _ _ = true); kernel_rfl) | ((show FitV _ _ _ _ _ _); (repeat' (first | exact trivial | exact Or.inr (Or.inl rfl) | exact Or.inl rfl | exact Or.inr (Or.inr rfl) | refine And.intro ?_ ?_)); done) | assumption | ((first | refine ld_nums i3 _ _ ?_ | refine ld_nums i22 _ _ ?_ | refine ld_nums i5 _ _ ?_ | refine at_nums i3 _ _ ?_ | refine at_nums i22 _ _ ?_ | refine at_nums i5 _ _ ?_); first | assumption | omega | (simp only [List.length_append]; omega)) | (show _ ≤ _; omega) | (simp only [List.length_take, List.length_drop, List.length_append, List.length_cons, List.length_nil]; omega) | ((repeat' (first | exact trivial | exact rfl | exact Nat.le_of_ble_eq_true rfl | refine And.intro ?_ ?_ | fail)); done) | ((try simp (disch := omega) only [NSX, Nat.reduceBEq, Nat.reduceAdd, Nat.reduceMul, Int.reduceToNat, Nat.reduceSub, TY, slx, take16, drop16, dz, nums_length, F27, F28, wa, wb, wc, wd, e5]); (repeat' (first | exact trivial | exact rfl | exact ⟨_, _, rfl⟩ | exact ⟨_, rfl⟩ | exact Nat.le_of_ble_eq_true rfl | exact Nat.zero_lt_succ _ | omega | (simp only [nums_length, toB_len] at *; omega) | refine And.intro ?_ ?_ | fail)); done)); done))
        | fail)
      all_goals try simp (disch := omega) only [NSX, Nat.reduceBEq, Nat.reduceAdd, Nat.reduceMul, Int.reduceToNat, Nat.reduceSub, TY, slx, take16, drop16, dz, nums_length, F27, F28, wa, wb, wc, wd, e5]
      all_goals first
        | exact ⟨_, by omega, _, rfl, by omega, rfl, by omega, by omega, by omega, by omega⟩
        | exact ⟨_, by omega, 1, rfl, by omega, rfl, by omega, by omega, by omega, by omega⟩
        | exact ⟨_, by omega, 2, rfl, by omega, rfl, by omega, by omega, by omega, by omega⟩
        | exact ⟨_, by omega, 3, rfl, by omega, rfl, by omega, by omega, by omega, by omega⟩
        | exact ⟨_, by omega, 4, rfl, by omega, rfl, by omega, by omega, by omega, by omega⟩
        | (refine ⟨congrArg (V.int .i64) ?_, trivial⟩; unfold findS; (repeat (first | rw [if_pos (by omega)] | rw [if_neg (by omega)])); (try rfl); done)
        | (exfalso; omega) | trace_state)
set_option maxHeartbeats 3200000 in
theorem width_ok (i : Nat) (hi : i ≤ 3) : AC Try.prog 28 [.int .i64 i] (fun r m => r = .int .i64 (8 * 2 ^ i) ∧ m = []) := by
  refine AC.enter Try.func28 rfl (Nat.le_of_ble_eq_true rfl) ?_
  simp only [Try.f28]
  have hchk : True := by simp only [TY, slx, take16, drop16, dz, nums_length, F27, F28]
  repeat' (first
    | (refine AWL.opN (sl := SL) rfl rfl rfl trivial ?_; (try (conv => arg -1; simp (disch := omega) only [NSX, Nat.reduceBEq, Nat.reduceAdd, Nat.reduceMul, Int.reduceToNat, Nat.reduceSub, TY, slx, take16, drop16, dz, nums_length, F27, F28])))
    | (refine AW.seqQ ?_; intro Qn hQn)
    | (refine AW.blockQ ?_; intro Qn hQn)
    | refine AW.region ?_
    | ((first | refine AW.skip ?_ | refine AW.ret ?_ | refine AW.exit ?_ | refine AWL.nil ?_ | refine CW.nil ?_); (repeat (first | refine QEq.mp (by assumption) ?_ | simp only [thenQ, Go.Abs.blockQ, ↓reduceIte, Nat.reduceEqDiff])))
    | refine FW.nil ?_
    | refine FW.pass rfl rfl ?_
    | refine FW.go rfl ?_
    | refine CW.skip rfl rfl ?_
    | refine CW.step rfl rfl rfl rfl rfl ?_
    | ((first
      | (refine AWL.boxF (t := 39) rfl rfl rfl rfl rfl ?_)
      | (refine AWL.allocF (t := 39) rfl rfl rfl rfl rfl rfl ?_)
      | (refine CWr.allocF (t := 39) rfl rfl rfl ?_ ?_)
      | (refine AWL.boxF (t := 26) rfl rfl rfl rfl rfl ?_)
      | (refine AWL.allocF (t := 26) rfl rfl rfl rfl rfl rfl ?_)
      | (refine CWr.allocF (t := 26) rfl rfl rfl ?_ ?_)
      | (refine AWL.op (sl := SL) rfl rfl ?_ ?_)
      | (refine FW.float rfl rfl rfl rfl rfl ?_)
      | (refine CWr.op rfl ?_ ?_ ?_)
      | (refine CWr.assign rfl ?_ ?_)
      | (refine CWr.alloc rfl rfl rfl rfl ?_)
      | (refine CWr.build rfl rfl rfl rfl ?_ rfl rfl rfl ?_)
      | fail) <;> (try ((first | show AWL _ _ _ _ _ | show AW _ _ _ _ | show FW _ _ _ _ _ _ _ _ _ _ | show CW _ _ _ _ _ _ _ _ _ _ _ _ | (rintro _ _ ⟨rfl, rfl⟩; (try refine And.intro rfl ?_))); (try (conv => arg -1; simp (disch := omega) only [NSX, Nat.reduceBEq, Nat.reduceAdd, Nat.reduceMul, Int.reduceToNat, Nat.reduceSub, TY, slx, take16, drop16, dz, nums_length, F27, F28])))))
    | ((first | refine AWL.guard2 rfl rfl rfl rfl rfl rfl ?_ ?_ | refine CW.guard2 rfl rfl rfl rfl rfl rfl rfl rfl ?_ ?_) <;> (intro hc; (try simp only [Bool.not_true, Bool.not_false] at hc); first | (cases hc; done) | ((try simp only [hc]); (try simp only [beq_iff_eq, bne_iff_ne, decide_eq_true_eq, decide_eq_false_iff_not, beq_eq_false_iff_ne, bne_eq_false_iff_eq, ne_eq, Bool.not_eq_true, Bool.not_eq_false, Bool.not_eq_eq_eq_not, Bool.not_true, Bool.not_false, Decidable.not_not, Int.not_lt, Int.not_le] at hc); (try (exfalso; omega)); (try (guard_hyp hc : True; clear hc)))))
    | (refine AWL.guard2 rfl rfl rfl rfl rfl rfl (fun hc => ?_) ?_; (cases hc; done))
    | ((first | ((show AW _ (.region _ _ true) _ _); refine AW.calm false [] [] hmix (by (repeat' (first | exact panOk_end | exact panOk_endM | refine panOk_then ?_ | refine panOk_block ?_ | refine QEq.pan (by assumption) ?_))) ?_ rfl ?_; (focus (as_aux_lemma => kernel_rfl))) | refine AWL.guardU rfl rfl rfl rfl rfl rfl ?_ | refine CW.guardU rfl rfl rfl rfl rfl rfl rfl rfl ?_); (try (conv => arg -1; simp (disch := omega) only [NSX, Nat.reduceBEq, Nat.reduceAdd, Nat.reduceMul, Int.reduceToNat, Nat.reduceSub, TY, slx, take16, drop16, dz, nums_length, F27, F28])))
    | refine CW.tail rfl ?_
    | (refine AW.cond rfl (fun hc => ?_) (fun hc => ?_) <;> first | (cases hc; done) | ((try simp only [beq_iff_eq, bne_iff_ne, decide_eq_true_eq, decide_eq_false_iff_not, beq_eq_false_iff_ne, bne_eq_false_iff_eq, ne_eq, Bool.not_eq_true, Bool.not_eq_false, Bool.not_eq_eq_eq_not, Bool.not_true, Bool.not_false, Decidable.not_not, Int.not_lt, Int.not_le] at hc); (try (exfalso; omega)); (try (guard_hyp hc : True; clear hc))))
    | ((refine EndQ.mk rfl rfl rfl ?_ ?_ ?_; (focus (first | exact Or.inl rfl | exact Or.inr rfl))) <;> (try simp (disch := omega) only [NSX, Nat.reduceBEq, Nat.reduceAdd, Nat.reduceMul, Int.reduceToNat, Nat.reduceSub, TY, slx, take16, drop16, dz, nums_length, F27, F28]))
    | (focus ((first | exact trivial | omega | (refine And.intro (by kernel_rfl) (And.intro ⟨_, (by first | exact nums_ints _ _ | rfl), (by first | exact nums_ints _ _ | rfl)⟩ (And.intro ?_ ?_)) <;> (first | rfl | assumption | (simp only [nums_length]; omega) | omega)) | (refine And.intro ?_ (And.intro ?_ ?_); (focus kernel_rfl); (focus kernel_rfl); (focus kernel_rfl)) | ((show newKs _ _ _ = true); kernel_rfl) | ((show FitV _ _ _ _ _ _); (repeat' (first | exact trivial | exact Or.inr (Or.inl rfl) | exact Or.inl rfl | exact Or.inr (Or.inr rfl) | refine And.intro ?_ ?_)); done) | assumption | ((first | refine ld_nums i3 _ _ ?_ | refine ld_nums i22 _ _ ?_ | refine ld_nums i5 _ _ ?_ | refine at_nums i3 _ _ ?_ | refine at_nums i22 _ _ ?_ | refine at_nums i5 _ _ ?_); first | assumption | omega | (simp only [List.length_append]; omega)) | (show _ ≤ _; omega) | (simp only [List.length_take, List.length_drop, List.length_append, List.length_cons, List.length_nil]; omega) | ((repeat' (first | exact trivial | exact rfl | exact Nat.le_of_ble_eq_true rfl | refine And.intro ?_ ?_ | fail)); done) | ((try simp (disch := omega) only [NSX, Nat.reduceBEq, Nat.reduceAdd, Nat.reduceMul, Int.reduceToNat, Nat.reduceSub, TY, slx, take16, drop16, dz, nums_length, F27, F28]); (repeat' (first | exact trivial | exact rfl | exact ⟨_, _, rfl⟩ | exact ⟨_, rfl⟩ | exact Nat.le_of_ble_eq_true rfl | exact Nat.zero_lt_succ _ | omega | (simp only [nums_length, toB_len] at *; omega) | refine And.intro ?_ ?_ | fail)); done)); done))
    | fail)
  refine AW.loop [0, 2, 3, 4] [] (fun n st => ∃ k : Nat, st = F28 i (8 * 2 ^ k) k ∧ k ≤ i ∧ n = i - k) ?_ ?_
  · exact ⟨_, 0, rfl, by omega, rfl⟩
  · rintro n st ⟨k, rfl, hk, rfl⟩
    have e5 : IntKind.i64.wrap ((k : Int) + 1) = ((k + 1 : Nat) : Int) := wrap64_id _ (by omega) (by omega)
    have e6 : IntKind.i64.wrap (8 * 2 ^ k * 2) = 8 * 2 ^ (k + 1) := by
      have : k = 0 ∨ k = 1 ∨ k = 2 ∨ k = 3 := by omega
      rcases this with rfl | rfl | rfl | rfl <;> decide +kernel
    by_cases hki : k < i
    · have hchk : True := by simp only [TY, slx, take16, drop16, dz, nums_length, F27, F28, e5, e6]
      repeat' (first
        | (refine AWL.opN (sl := SL) rfl rfl rfl trivial ?_; (try (conv => arg -1; simp (disch := omega) only [NSX, Nat.reduceBEq, Nat.reduceAdd, Nat.reduceMul, Int.reduceToNat, Nat.reduceSub, TY, slx, take16, drop16, dz, nums_length, F27, F28, e5, e6])))
        | (refine AW.seqQ ?_; intro Qn hQn)
        | (refine AW.blockQ ?_; intro Qn hQn)
        | refine AW.region ?_
        | ((first | refine AW.skip ?_ | refine AW.ret ?_ | refine AW.exit ?_ | refine AWL.nil ?_ | refine CW.nil ?_); (repeat (first | refine QEq.mp (by assumption) ?_ | simp only [thenQ, Go.Abs.blockQ, ↓reduceIte, Nat.reduceEqDiff])))
        | refine FW.nil ?_
        | refine FW.pass rfl rfl ?_
        | refine FW.go rfl ?_
        | refine CW.skip rfl rfl ?_
        | refine CW.step rfl rfl rfl rfl rfl ?_
        | ((first
          | (refine AWL.boxF (t := 39) rfl rfl rfl rfl rfl ?_)
          | (refine AWL.allocF (t := 39) rfl rfl rfl rfl rfl rfl ?_)
          | (refine CWr.allocF (t := 39) rfl rfl rfl ?_ ?_)
          | (refine AWL.boxF (t := 26) rfl rfl rfl rfl rfl ?_)
          | (refine AWL.allocF (t := 26) rfl rfl rfl rfl rfl rfl ?_)
          | (refine CWr.allocF (t := 26) rfl rfl rfl ?_ ?_)
          | (refine AWL.op (sl := SL) rfl rfl ?_ ?_)
          | (refine FW.float rfl rfl rfl rfl rfl ?_)
          | (refine CWr.op rfl ?_ ?_ ?_)
          | (refine CWr.assign rfl ?_ ?_)
          | (refine CWr.alloc rfl rfl rfl rfl ?_)
          | (refine CWr.build rfl rfl rfl rfl ?_ rfl rfl rfl ?_)
          | fail) <;> (try ((first | show AWL _ _ _ _ _ | show AW _ _ _ _ | show FW _ _ _ _ _ _ _ _ _ _ | show CW _ _ _ _ _ _ _ _ _ _ _ _ | (rintro _ _ ⟨rfl, rfl⟩; (try refine And.intro rfl ?_))); (try (conv => arg -1; simp (disch := omega) only [NSX, Nat.reduceBEq, Nat.reduceAdd, Nat.reduceMul, Int.reduceToNat, Nat.reduceSub, TY, slx, take16, drop16, dz, nums_length, F27, F28, e5, e6])))))
        | ((first | refine AWL.guard2 rfl rfl rfl rfl rfl rfl ?_ ?_ | refine CW.guard2 rfl rfl rfl rfl rfl rfl rfl rfl ?_ ?_) <;> (intro hc; (try simp only [Bool.not_true, Bool.not_false] at hc); first | (cases hc; done) | ((try simp only [hc]); (try simp only [beq_iff_eq, bne_iff_ne, decide_eq_true_eq, decide_eq_false_iff_not, beq_eq_false_iff_ne, bne_eq_false_iff_eq, ne_eq, Bool.not_eq_true, Bool.not_eq_false, Bool.not_eq_eq_eq_not, Bool.not_true, Bool.not_false, Decidable.not_not, Int.not_lt, Int.not_le] at hc); (try (exfalso; omega)); (try (guard_hyp hc : True; clear hc)))))
        | (refine AWL.guard2 rfl rfl rfl rfl rfl rfl (fun hc => ?_) ?_; (cases hc; done))
        | ((first | ((show AW _ (.region _ _ true) _ _); refine AW.calm false [] [] hmix (by (repeat' (first | exact panOk_end | exact panOk_endM | refine panOk_then ?_ | refine panOk_block ?_ | refine QEq.pan (by assumption) ?_))) ?_ rfl ?_; (focus (as_aux_lemma => kernel_rfl))) | refine AWL.guardU rfl rfl rfl rfl rfl rfl ?_ | refine CW.guardU rfl rfl rfl rfl rfl rfl rfl rfl ?_); (try (conv => arg -1; simp (disch := omega) only [NSX, Nat.reduceBEq, Nat.reduceAdd, Nat.reduceMul, Int.reduceToNat, Nat.reduceSub, TY, slx, take16, drop16, dz, nums_length, F27, F28, e5, e6])))
        | refine CW.tail rfl ?_
        | (refine AW.cond rfl (fun hc => ?_) (fun hc => ?_) <;> first | (cases hc; done) | ((try simp only [beq_iff_eq, bne_iff_ne, decide_eq_true_eq, decide_eq_false_iff_not, beq_eq_false_iff_ne, bne_eq_false_iff_eq, ne_eq, Bool.not_eq_true, Bool.not_eq_false, Bool.not_eq_eq_eq_not, Bool.not_true, Bool.not_false, Decidable.not_not, Int.not_lt, Int.not_le] at hc); (try (exfalso; omega)); (try (guard_hyp hc : True; clear hc))))
        | ((refine EndQ.mk rfl rfl rfl ?_ ?_ ?_; (focus (first | exact Or.inl rfl | exact Or.inr rfl))) <;> (try simp (disch := omega) only [NSX, Nat.reduceBEq, Nat.reduceAdd, Nat.reduceMul, Int.reduceToNat, Nat.reduceSub, TY, slx, take16, drop16, dz, nums_length, F27, F28, e5, e6]))
        | (focus ((first | exact trivial | omega | (refine And.intro (by kernel_rfl) (And.intro ⟨_, (by first | exact nums_ints _ _ | rfl), (by first | exact nums_ints _ _ | rfl)⟩ (And.intro ?_ ?_)) <;> (first | rfl | assumption | (simp only [nums_length]; omega) | omega)) | (refine And.intro ?_ (And.intro ?_ ?_); (focus kernel_rfl); (focus kernel_rfl); (focus kernel_rfl)) | ((show newKs _ _ _ = true); kernel_rfl) | ((show FitV _ _ _ _ _ _); (repeat' (first | exact trivial | exact Or.inr (Or.inl rfl) | exact Or.inl rfl | exact Or.inr (Or.inr rfl) | refine And.intro ?_ ?_)); done) | assumption | ((first | refine ld_nums i3 _ _ ?_ | refine ld_nums i22 _ _ ?_ | refine ld_nums i5 _ _ ?_ | refine at_nums i3 _ _ ?_ | refine at_nums i22 _ _ ?_ | refine at_nums i5 _ _ ?_); first | assumption | omega | (simp only [List.length_append]; omega)) | (show _ ≤ _; omega) | (simp only [List.length_take, List.length_drop, List.length_append, List.length_cons, List.length_nil]; omega) | ((repeat' (first | exact trivial | exact rfl | exact Nat.le_of_ble_eq_true rfl | refine And.intro ?_ ?_ | fail)); done) | ((try simp (disch := omega) only [NSX, Nat.reduceBEq, Nat.reduceAdd, Nat.reduceMul, Int.reduceToNat, Nat.reduceSub, TY, slx, take16, drop16, dz, nums_length, F27, F28, e5, e6]); (repeat' (first | exact trivial | exact rfl | exact ⟨_, _, rfl⟩ | exact ⟨_, rfl⟩ | exact Nat.le_of_ble_eq_true rfl | exact Nat.zero_lt_succ _ | omega | (simp only [nums_length, toB_len] at *; omega) | refine And.intro ?_ ?_ | fail)); done)); done))
        | fail)
      all_goals try simp (disch := omega) only [NSX, Nat.reduceBEq, Nat.reduceAdd, Nat.reduceMul, Int.reduceToNat, Nat.reduceSub, TY, slx, take16, drop16, dz, nums_length, F27, F28, e5, e6]
      all_goals first
        | exact ⟨i - (k + 1), by omega, k + 1, rfl, by omega, rfl⟩
        | (exfalso; omega) | trace_state
    · obtain rfl : k = i := by omega
      have hchk : True := by simp only [TY, slx, take16, drop16, dz, nums_length, F27, F28]
      repeat' (first
        | (refine AWL.opN (sl := SL) rfl rfl rfl trivial ?_; (try (conv => arg -1; simp (disch := omega) only [NSX, Nat.reduceBEq, Nat.reduceAdd, Nat.reduceMul, Int.reduceToNat, Nat.reduceSub, TY, slx, take16, drop16, dz, nums_length, F27, F28])))
        | (refine AW.seqQ ?_; intro Qn hQn)
        | (refine AW.blockQ ?_; intro Qn hQn)
        | refine AW.region ?_
        | ((first | refine AW.skip ?_ | refine AW.ret ?_ | refine AW.exit ?_ | refine AWL.nil ?_ | refine CW.nil ?_); (repeat (first | refine QEq.mp (by assumption) ?_ | simp only [thenQ, Go.Abs.blockQ, ↓reduceIte, Nat.reduceEqDiff])))
        | refine FW.nil ?_
        | refine FW.pass rfl rfl ?_
        | refine FW.go rfl ?_
        | refine CW.skip rfl rfl ?_
        | refine CW.step rfl rfl rfl rfl rfl ?_
        | ((first
          | (refine AWL.boxF (t := 39) rfl rfl rfl rfl rfl ?_)
          | (refine AWL.allocF (t := 39) rfl rfl rfl rfl rfl rfl ?_)
          | (refine CWr.allocF (t := 39) rfl rfl rfl ?_ ?_)
          | (refine AWL.boxF (t := 26) rfl rfl rfl rfl rfl ?_)
          | (refine AWL.allocF (t := 26) rfl rfl rfl rfl rfl rfl ?_)
          | (refine CWr.allocF (t := 26) rfl rfl rfl ?_ ?_)
          | (refine AWL.op (sl := SL) rfl rfl ?_ ?_)
          | (refine FW.float rfl rfl rfl rfl rfl ?_)
          | (refine CWr.op rfl ?_ ?_ ?_)
          | (refine CWr.assign rfl ?_ ?_)
          | (refine CWr.alloc rfl rfl rfl rfl ?_)
          | (refine CWr.build rfl rfl rfl rfl ?_ rfl rfl rfl ?_)
          | fail) <;> (try ((first | show AWL _ _ _ _ _ | show AW _ _ _ _ | show FW _ _ _ _ _ _ _ _ _ _ | show CW _ _ _ _ _ _ _ _ _ _ _ _ | (rintro _ _ ⟨rfl, rfl⟩; (try refine And.intro rfl ?_))); (try (conv => arg -1; simp (disch := omega) only [NSX, Nat.reduceBEq, Nat.reduceAdd, Nat.reduceMul, Int.reduceToNat, Nat.reduceSub, TY, slx, take16, drop16, dz, nums_length, F27, F28])))))
        | ((first | refine AWL.guard2 rfl rfl rfl rfl rfl rfl ?_ ?_ | refine CW.guard2 rfl rfl rfl rfl rfl rfl rfl rfl ?_ ?_) <;> (intro hc; (try simp only [Bool.not_true, Bool.not_false] at hc); first | (cases hc; done) | ((try simp only [hc]); (try simp only [beq_iff_eq, bne_iff_ne, decide_eq_true_eq, decide_eq_false_iff_not, beq_eq_false_iff_ne, bne_eq_false_iff_eq, ne_eq, Bool.not_eq_true, Bool.not_eq_false, Bool.not_eq_eq_eq_not, Bool.not_true, Bool.not_false, Decidable.not_not, Int.not_lt, Int.not_le] at hc); (try (exfalso; omega)); (try (guard_hyp hc : True; clear hc)))))
        | (refine AWL.guard2 rfl rfl rfl rfl rfl rfl (fun hc => ?_) ?_; (cases hc; done))
        | ((first | ((show AW _ (.region _ _ true) _ _); refine AW.calm false [] [] hmix (by (repeat' (first | exact panOk_end | exact panOk_endM | refine panOk_then ?_ | refine panOk_block ?_ | refine QEq.pan (by assumption) ?_))) ?_ rfl ?_; (focus (as_aux_lemma => kernel_rfl))) | refine AWL.guardU rfl rfl rfl rfl rfl rfl ?_ | refine CW.guardU rfl rfl rfl rfl rfl rfl rfl rfl ?_); (try (conv => arg -1; simp (disch := omega) only [NSX, Nat.reduceBEq, Nat.reduceAdd, Nat.reduceMul, Int.reduceToNat, Nat.reduceSub, TY, slx, take16, drop16, dz, nums_length, F27, F28])))
        | refine CW.tail rfl ?_
        | (refine AW.cond rfl (fun hc => ?_) (fun hc => ?_) <;> first | (cases hc; done) | ((try simp only [beq_iff_eq, bne_iff_ne, decide_eq_true_eq, decide_eq_false_iff_not, beq_eq_false_iff_ne, bne_eq_false_iff_eq, ne_eq, Bool.not_eq_true, Bool.not_eq_false, Bool.not_eq_eq_eq_not, Bool.not_true, Bool.not_false, Decidable.not_not, Int.not_lt, Int.not_le] at hc); (try (exfalso; omega)); (try (guard_hyp hc : True; clear hc))))
        | ((refine EndQ.mk rfl rfl rfl ?_ ?_ ?_; (focus (first | exact Or.inl rfl | exact Or.inr rfl))) <;> (try simp (disch := omega) only [NSX, Nat.reduceBEq, Nat.reduceAdd, Nat.reduceMul, Int.reduceToNat, Nat.reduceSub, TY, slx, take16, drop16, dz, nums_length, F27, F28]))
        | (focus ((first | exact trivial | omega | (refine And.intro (by kernel_rfl) (And.intro ⟨_, (by first | exact nums_ints _ _ | rfl), (by first | exact nums_ints _ _ | rfl)⟩ (And.intro ?_ ?_)) <;> (first | rfl | assumption | (simp only [nums_length]; omega) | omega)) | (refine And.intro ?_ (And.intro ?_ ?_); (focus kernel_rfl); (focus kernel_rfl); (focus kernel_rfl)) | ((show newKs _ _ _ = true); kernel_rfl) | ((show FitV _ _ _ _ _ _); (repeat' (first | exact trivial | exact Or.inr (Or.inl rfl) | exact Or.inl rfl | exact Or.inr (Or.inr rfl) | refine And.intro ?_ ?_)); done) | assumption | ((first | refine ld_nums i3 _ _ ?_ | refine ld_nums i22 _ _ ?_ | refine ld_nums i5 _ _ ?_ | refine at_nums i3 _ _ ?_ | refine at_nums i22 _ _ ?_ | refine at_nums i5 _ _ ?_); first | assumption | omega | (simp only [List.length_append]; omega)) | (show _ ≤ _; omega) | (simp only [List.length_take, List.length_drop, List.length_append, List.length_cons, List.length_nil]; omega) | ((repeat' (first | exact trivial | exact rfl | exact Nat.le_of_ble_eq_true rfl | refine And.intro ?_ ?_ | fail)); done) | ((try simp (disch := omega) only [NSX, Nat.reduceBEq, Nat.reduceAdd, Nat.reduceMul, Int.reduceToNat, Nat.reduceSub, TY, slx, take16, drop16, dz, nums_length, F27, F28]); (repeat' (first | exact trivial | exact rfl | exact ⟨_, _, rfl⟩ | exact ⟨_, rfl⟩ | exact Nat.le_of_ble_eq_true rfl | exact Nat.zero_lt_succ _ | omega | (simp only [nums_length, toB_len] at *; omega) | refine And.intro ?_ ?_ | fail)); done)); done))
        | fail)
      all_goals first | exact ⟨trivial, trivial⟩ | exact ⟨rfl, trivial⟩ | exact ⟨rfl, rfl⟩ | exact ⟨trivial, rfl⟩ | (exfalso; omega) | trace_state
end Go.Proofs.Ytgmhfbdmigfgbaa
