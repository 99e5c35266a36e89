/- awake. -/
import Derived.Test.YtbdmieljkgcpcaaV4
import Derived.Test.YtbdmieljkgcpcaaOne
import Derived.Test.YtbdmieljkgcpcaaOff
import Derived.Test.YtbdmieljkgcpcaaROff
import Derived.Test.YtbdmieljkgcpcaaSig
import Derived.Test.YtbdmieljkgcpcaaRSig
namespace Go.Proofs.Ytbdmieljkgcpcaa
set_option linter.unusedSimpArgs false
set_option linter.unusedVariables false
open Go Go.Abs
attribute [local irreducible] AW AWL AC DQ IntKind.wrap

theorem off_look (n : Nat) (xs : List Int) (hn : n = xs.length) (hlen : xs.length * 16 ≤ 140737488351232) : AC Try.prog 16 [.view n 1 (nums .i64 xs)] (fun r m => r = .view xs.length 1 (nums .i64 (offsTo xs xs.length)) ∧ m = []) := by
  subst hn
  exact (off_ok xs hlen).look (by rw [nums_length, offsTo_len, Nat.mul_one])
theorem roff_look (n : Nat) (xs : List Int) (hn : n = xs.length) (hlen : xs.length * 16 ≤ 140737488351232) : AC Try.prog 17 [.view n 1 (nums .i64 xs)] (fun r m => r = .view xs.length 1 (nums .i64 (offsTo xs xs.length)) ∧ m = []) := by
  subst hn
  exact (roff_ok xs hlen).look (by rw [nums_length, offsTo_len, Nat.mul_one])
def L3 : List Sg := [([], []), ([127], []), ([], [])]
theorem L3_small : small L3 := by intro s hs; simp [L3] at hs; rcases hs with rfl | rfl | rfl <;> simp
theorem L3_les (k : Int) : Les [.agg [.view 3 2 [.nils, .nils, .view 1 1 (nums .i64 [127]), .nils, .nils, .nils], .nils, .nils, .nils, .nils, .nils, .nils, .int .i64 0, .nils, .nils, .nils], .int .i64 k] [.agg [.view 3 2 (sigC L3), .nils, .nils, .nils, .nils, .nils, .nils, .int .i64 0, .nils, .nils, .nils], .int .i64 k] := by
  refine .cons (.agg (.cons (.view ?_) ?_)) ?_
  · exact .cons (.nil 1) (.cons (.nil 1) (.cons (.same _) (.cons (.nil 1) (.cons (.nil 1) (.cons (.nil 1) .nil)))))
  · repeat (first | exact .nil | refine .cons (.same _) ?_)
  · exact .cons (.same _) .nil
set_option maxRecDepth 4000 in
set_option maxHeartbeats 400000 in
theorem awake_ok : AC Try.prog 9 [] (fun r m => r = .bool true ∧ m = []) := by
  have h1 := AC.le (block_ag 3 L3 rfl L3_small (by decide) 1) (L3_les 1)
  rw [show block L3 1 = (1, 0) from by decide] at h1
  have h2 := AC.le (canon_ag 3 L3 rfl L3_small (by decide) 2) (L3_les 2)
  rw [show canon L3 2 = 0 from by decide] at h2
  have h3 := AC.le (canon_ag 3 L3 rfl L3_small (by decide) 3) (L3_les 3)
  rw [show canon L3 3 = -1 from by decide] at h3
  have h4 := width_at 2 [123, 127] rfl (by decide)
  rw [show ((image [123, 127]).length : Int) = 3 from by decide] at h4
  have h5 := types_look 2 [123, 127] rfl (by decide)
  rw [show image [123, 127] = [126, 126, 127] from by decide] at h5
  have h6 := off_look 2 [123, 127] rfl (by decide)
  rw [show offsTo [123, 127] ([123, 127] : List Int).length = [0, 2] from by decide] at h6
  have h7 := same_at 3 3 [126, 126, 127] [126, 126, 127] rfl rfl (by decide)
  rw [show decide ([126, 126, 127] = [(126 : Int), 126, 127]) = true from by decide] at h7
  have h8 := same_at 2 2 [0, 2] [0, 2] rfl rfl (by decide)
  rw [show decide ([0, 2] = [(0 : Int), 2]) = true from by decide] at h8
  have h9 : AC Try.prog 10 [.agg [.nils, .view 1 1 (nums .i64 [123])]] _ := AC.le (AC.of_fagg (args := [.agg [.view 0 1 (nums .i64 []), .view 1 1 (nums .i64 [123])]]) (sig10_at 0 1 [] [123] rfl rfl (by decide) (by decide))) (.cons (.agg (.cons (.nil 1) (.cons (.same _) .nil))) .nil)
  rw [show image [123] = [126, 126] from by decide] at h9
  refine AC.enter Try.func9 rfl (Nat.le_of_ble_eq_true rfl) ?_
  simp only [Try.f9]
  repeat' (first
    | refine AW.seq ?_
    | refine AW.block ?_
    | refine AW.region ?_
    | (refine AW.skip ?_; (try simp only [thenQ, blockQ, ↓reduceIte, Nat.reduceEqDiff]))
    | (refine AW.ret ?_; (try simp only [thenQ, blockQ, ↓reduceIte, Nat.reduceEqDiff]))
    | (refine AW.exit ?_; (try simp only [thenQ, blockQ, ↓reduceIte, Nat.reduceEqDiff]))
    | (refine AWL.nil ?_; (try simp only [thenQ, blockQ, ↓reduceIte, Nat.reduceEqDiff]))
    | (refine DQ.nil ?_; (try simp only [thenQ, blockQ, ↓reduceIte, Nat.reduceEqDiff]))
    | ((first
      | (refine AWL.op (sl := SL) rfl rfl ?_ ?_)
      | (refine DQ.op rfl rfl rfl rfl rfl ?_ ?_)
      | (refine DQ.yes rfl ?_ ?_)
      | (refine DQ.step rfl rfl rfl rfl (QStep.assign rfl) ?_)
      | (refine AWL.frzA rfl rfl ?_)
      | (refine AWL.callV (f := 24) rfl rfl rfl rfl ?_ (Nat.le_of_ble_eq_true rfl) rfl (h1) ?_; (focus kernel_rfl))
      | (refine AWL.call (f := 24) rfl rfl rfl ?_ rfl (Nat.le_of_ble_eq_true rfl) rfl (h1) ?_; (focus kernel_rfl))
      | (refine CWr.call (f := 24) rfl ?_ rfl (h1) (fun _ _ h => h) ?_ ?_ ?_; (focus kernel_rfl))
      | (refine DQ.step rfl rfl rfl rfl (QStep.call (f := 24) rfl ?_ rfl (h1) (fun _ _ h => h) (fun _ => rfl)) ?_; (focus kernel_rfl))
      | (refine DQ.yesC (QStep.call (f := 24) rfl ?_ rfl (h1) (fun _ _ h => h) (fun _ => rfl)) ?_; (focus kernel_rfl))
      | (refine AWL.callV (f := 20) rfl rfl rfl rfl ?_ (Nat.le_of_ble_eq_true rfl) rfl (h2) ?_; (focus kernel_rfl))
      | (refine AWL.call (f := 20) rfl rfl rfl ?_ rfl (Nat.le_of_ble_eq_true rfl) rfl (h2) ?_; (focus kernel_rfl))
      | (refine CWr.call (f := 20) rfl ?_ rfl (h2) (fun _ _ h => h) ?_ ?_ ?_; (focus kernel_rfl))
      | (refine DQ.step rfl rfl rfl rfl (QStep.call (f := 20) rfl ?_ rfl (h2) (fun _ _ h => h) (fun _ => rfl)) ?_; (focus kernel_rfl))
      | (refine DQ.yesC (QStep.call (f := 20) rfl ?_ rfl (h2) (fun _ _ h => h) (fun _ => rfl)) ?_; (focus kernel_rfl))
      | (refine AWL.callV (f := 20) rfl rfl rfl rfl ?_ (Nat.le_of_ble_eq_true rfl) rfl (h3) ?_; (focus kernel_rfl))
      | (refine AWL.call (f := 20) rfl rfl rfl ?_ rfl (Nat.le_of_ble_eq_true rfl) rfl (h3) ?_; (focus kernel_rfl))
      | (refine CWr.call (f := 20) rfl ?_ rfl (h3) (fun _ _ h => h) ?_ ?_ ?_; (focus kernel_rfl))
      | (refine DQ.step rfl rfl rfl rfl (QStep.call (f := 20) rfl ?_ rfl (h3) (fun _ _ h => h) (fun _ => rfl)) ?_; (focus kernel_rfl))
      | (refine DQ.yesC (QStep.call (f := 20) rfl ?_ rfl (h3) (fun _ _ h => h) (fun _ => rfl)) ?_; (focus kernel_rfl))
      | (refine AWL.callV (f := 12) rfl rfl rfl rfl ?_ (Nat.le_of_ble_eq_true rfl) rfl (h4) ?_; (focus kernel_rfl))
      | (refine AWL.call (f := 12) rfl rfl rfl ?_ rfl (Nat.le_of_ble_eq_true rfl) rfl (h4) ?_; (focus kernel_rfl))
      | (refine CWr.call (f := 12) rfl ?_ rfl (h4) (fun _ _ h => h) ?_ ?_ ?_; (focus kernel_rfl))
      | (refine DQ.step rfl rfl rfl rfl (QStep.call (f := 12) rfl ?_ rfl (h4) (fun _ _ h => h) (fun _ => rfl)) ?_; (focus kernel_rfl))
      | (refine DQ.yesC (QStep.call (f := 12) rfl ?_ rfl (h4) (fun _ _ h => h) (fun _ => rfl)) ?_; (focus kernel_rfl))
      | (refine AWL.callV (f := 15) rfl rfl rfl rfl ?_ (Nat.le_of_ble_eq_true rfl) rfl (h5) ?_; (focus kernel_rfl))
      | (refine AWL.call (f := 15) rfl rfl rfl ?_ rfl (Nat.le_of_ble_eq_true rfl) rfl (h5) ?_; (focus kernel_rfl))
      | (refine CWr.call (f := 15) rfl ?_ rfl (h5) (fun _ _ h => h) ?_ ?_ ?_; (focus kernel_rfl))
      | (refine DQ.step rfl rfl rfl rfl (QStep.call (f := 15) rfl ?_ rfl (h5) (fun _ _ h => h) (fun _ => rfl)) ?_; (focus kernel_rfl))
      | (refine DQ.yesC (QStep.call (f := 15) rfl ?_ rfl (h5) (fun _ _ h => h) (fun _ => rfl)) ?_; (focus kernel_rfl))
      | (refine AWL.callV (f := 16) rfl rfl rfl rfl ?_ (Nat.le_of_ble_eq_true rfl) rfl (h6) ?_; (focus kernel_rfl))
      | (refine AWL.call (f := 16) rfl rfl rfl ?_ rfl (Nat.le_of_ble_eq_true rfl) rfl (h6) ?_; (focus kernel_rfl))
      | (refine CWr.call (f := 16) rfl ?_ rfl (h6) (fun _ _ h => h) ?_ ?_ ?_; (focus kernel_rfl))
      | (refine DQ.step rfl rfl rfl rfl (QStep.call (f := 16) rfl ?_ rfl (h6) (fun _ _ h => h) (fun _ => rfl)) ?_; (focus kernel_rfl))
      | (refine DQ.yesC (QStep.call (f := 16) rfl ?_ rfl (h6) (fun _ _ h => h) (fun _ => rfl)) ?_; (focus kernel_rfl))
      | (refine AWL.callV (f := 14) rfl rfl rfl rfl ?_ (Nat.le_of_ble_eq_true rfl) rfl (h7) ?_; (focus kernel_rfl))
      | (refine AWL.call (f := 14) rfl rfl rfl ?_ rfl (Nat.le_of_ble_eq_true rfl) rfl (h7) ?_; (focus kernel_rfl))
      | (refine CWr.call (f := 14) rfl ?_ rfl (h7) (fun _ _ h => h) ?_ ?_ ?_; (focus kernel_rfl))
      | (refine DQ.step rfl rfl rfl rfl (QStep.call (f := 14) rfl ?_ rfl (h7) (fun _ _ h => h) (fun _ => rfl)) ?_; (focus kernel_rfl))
      | (refine DQ.yesC (QStep.call (f := 14) rfl ?_ rfl (h7) (fun _ _ h => h) (fun _ => rfl)) ?_; (focus kernel_rfl))
      | (refine AWL.callV (f := 14) rfl rfl rfl rfl ?_ (Nat.le_of_ble_eq_true rfl) rfl (h8) ?_; (focus kernel_rfl))
      | (refine AWL.call (f := 14) rfl rfl rfl ?_ rfl (Nat.le_of_ble_eq_true rfl) rfl (h8) ?_; (focus kernel_rfl))
      | (refine CWr.call (f := 14) rfl ?_ rfl (h8) (fun _ _ h => h) ?_ ?_ ?_; (focus kernel_rfl))
      | (refine DQ.step rfl rfl rfl rfl (QStep.call (f := 14) rfl ?_ rfl (h8) (fun _ _ h => h) (fun _ => rfl)) ?_; (focus kernel_rfl))
      | (refine DQ.yesC (QStep.call (f := 14) rfl ?_ rfl (h8) (fun _ _ h => h) (fun _ => rfl)) ?_; (focus kernel_rfl))
      | (refine AWL.callV (f := 10) rfl rfl rfl rfl ?_ (Nat.le_of_ble_eq_true rfl) rfl (h9) ?_; (focus kernel_rfl))
      | (refine AWL.call (f := 10) rfl rfl rfl ?_ rfl (Nat.le_of_ble_eq_true rfl) rfl (h9) ?_; (focus kernel_rfl))
      | (refine CWr.call (f := 10) rfl ?_ rfl (h9) (fun _ _ h => h) ?_ ?_ ?_; (focus kernel_rfl))
      | (refine DQ.step rfl rfl rfl rfl (QStep.call (f := 10) rfl ?_ rfl (h9) (fun _ _ h => h) (fun _ => rfl)) ?_; (focus kernel_rfl))
      | (refine DQ.yesC (QStep.call (f := 10) rfl ?_ rfl (h9) (fun _ _ h => h) (fun _ => rfl)) ?_; (focus kernel_rfl))
      | fail) <;> (first | ((first | show AWL _ _ _ _ _ | show DQ _ _ _ _ _ _ | show AW _ _ _ _ | (rintro _ _ ⟨rfl, rfl⟩; (try refine And.intro rfl ?_))); (try simp (disch := omega) only [NS, Nat.reduceBEq, Nat.reduceAdd, Nat.reduceMul, TY, slx])) | (focus ((first | exact trivial | omega | exact ld_nums i3 _ _ (by first | assumption | omega | (simp only [List.length_append, offsTo_len]; omega)) | (show _ ≤ _; omega) | (simp only [List.length_take, List.length_drop, List.length_append, List.length_cons, List.length_nil]; omega) | ((repeat' (first | exact trivial | exact rfl | exact Nat.le_of_ble_eq_true rfl | refine And.intro ?_ ?_ | fail)); done) | ((try simp (disch := omega) only [NS, Nat.reduceBEq, Nat.reduceAdd, Nat.reduceMul, TY, slx]); (repeat' (first | exact trivial | exact rfl | exact ⟨_, _, rfl⟩ | exact ⟨_, rfl⟩ | exact Nat.le_of_ble_eq_true rfl | exact Nat.zero_lt_succ _ | omega | refine And.intro ?_ ?_ | fail)); done)); done))))
    | (refine AWL.guard2 rfl rfl rfl rfl rfl rfl ?_ ?_ <;> (intro hc; (try simp only [Bool.not_true, Bool.not_false] at hc); first | (cases hc; done) | ((try simp only [hc]); (try simp only [beq_iff_eq, bne_iff_ne, decide_eq_true_eq, decide_eq_false_iff_not, beq_eq_false_iff_ne, bne_eq_false_iff_eq, ne_eq, Bool.not_eq_true, Bool.not_eq_false, Bool.not_eq_eq_eq_not, Bool.not_true, Bool.not_false, Decidable.not_not, Int.not_lt, Int.not_le] at hc); (try (exfalso; omega)); (try (guard_hyp hc : True; clear hc)))))
    | (refine AWL.guard2 rfl rfl rfl rfl rfl rfl (fun hc => ?_) ?_; (cases hc; done))
    | (refine AW.drawn false hmix ?_ ?_; (focus kernel_rfl))
    | (refine AWL.guardU rfl rfl rfl rfl rfl rfl ?_; (try simp (disch := omega) only [NS, Nat.reduceBEq, Nat.reduceAdd, Nat.reduceMul, TY, slx]))
    | (refine DQ.guardU rfl rfl rfl rfl rfl rfl rfl ?_; (try simp (disch := omega) only [NS, Nat.reduceBEq, Nat.reduceAdd, Nat.reduceMul, TY, slx]))
    | refine DQ.tail rfl ?_
    | (refine DQ.guard2 rfl rfl rfl rfl rfl rfl rfl ?_ ?_ <;> (intro hc; (try simp only [Bool.not_true, Bool.not_false] at hc); first | (cases hc; done) | ((try simp only [hc]); (try simp only [beq_iff_eq, bne_iff_ne, decide_eq_true_eq, decide_eq_false_iff_not, beq_eq_false_iff_ne, bne_eq_false_iff_eq, ne_eq, Bool.not_eq_true, Bool.not_eq_false, Bool.not_eq_eq_eq_not, Bool.not_true, Bool.not_false, Decidable.not_not, Int.not_lt, Int.not_le] at hc); (try (exfalso; omega)); (try (guard_hyp hc : True; clear hc)))))
    | (refine AW.cond rfl (fun hc => ?_) (fun hc => ?_) <;> first | (cases hc; done) | ((try simp only [beq_iff_eq, bne_iff_ne, decide_eq_true_eq, decide_eq_false_iff_not, beq_eq_false_iff_ne, bne_eq_false_iff_eq, ne_eq, Bool.not_eq_true, Bool.not_eq_false, Bool.not_eq_eq_eq_not, Bool.not_true, Bool.not_false, Decidable.not_not, Int.not_lt, Int.not_le] at hc); (try (exfalso; omega)); (try (guard_hyp hc : True; clear hc))))
    | (refine EndQ.mk rfl rfl rfl ?_ ?_ ?_; (focus (first | exact Or.inl rfl | exact Or.inr rfl)); (focus ((first | exact trivial | omega | exact ld_nums i3 _ _ (by first | assumption | omega | (simp only [List.length_append, offsTo_len]; omega)) | (show _ ≤ _; omega) | (simp only [List.length_take, List.length_drop, List.length_append, List.length_cons, List.length_nil]; omega) | ((repeat' (first | exact trivial | exact rfl | exact Nat.le_of_ble_eq_true rfl | refine And.intro ?_ ?_ | fail)); done) | ((try simp (disch := omega) only [NS, Nat.reduceBEq, Nat.reduceAdd, Nat.reduceMul, TY, slx]); (repeat' (first | exact trivial | exact rfl | exact ⟨_, _, rfl⟩ | exact ⟨_, rfl⟩ | exact Nat.le_of_ble_eq_true rfl | exact Nat.zero_lt_succ _ | omega | refine And.intro ?_ ?_ | fail)); done)); done)); (try simp (disch := omega) only [NS, Nat.reduceBEq, Nat.reduceAdd, Nat.reduceMul, TY, slx]))
    | fail)
  all_goals first | exact ⟨trivial, trivial⟩ | exact ⟨rfl, trivial⟩
end Go.Proofs.Ytbdmieljkgcpcaa
