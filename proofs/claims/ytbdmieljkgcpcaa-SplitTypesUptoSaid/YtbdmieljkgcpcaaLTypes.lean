/- SplitTypes. -/
import Derived.Test.YtbdmieljkgcpcaaV4
import Derived.Test.YtbdmieljkgcpcaaAwake
namespace Go.Proofs.Ytbdmieljkgcpcaa
set_option linter.unusedSimpArgs false
set_option linter.unusedVariables false
open Go Go.Abs
attribute [local irreducible] AW AWL AC DQ IntKind.wrap

theorem sig10_ag (n1 n2 : Nat) (a b : List Int) (h1 : n1 = a.length) (h2 : n2 = b.length) (ha : a.length * 16 ≤ 140737488351232) (hb : b.length * 16 ≤ 140737488351232) :
    AC Try.prog 10 [.agg [.view n1 1 (nums .i64 a), .view n2 1 (nums .i64 b)]] (fun r m => r = .agg [.view (image a).length 1 (nums .i64 (image a)), .view (image b).length 1 (nums .i64 (image b))] ∧ m = []) :=
  AC.of_fagg (args := [.agg [.view n1 1 (nums .i64 a), .view n2 1 (nums .i64 b)]]) (sig10_at n1 n2 a b h1 h2 ha hb)
theorem sig11_ag (n1 n2 : Nat) (a b : List Int) (h1 : n1 = a.length) (h2 : n2 = b.length) (ha : a.length * 16 ≤ 140737488351232) (hb : b.length * 16 ≤ 140737488351232) :
    AC Try.prog 11 [.agg [.view n1 1 (nums .i64 a), .view n2 1 (nums .i64 b)]] (fun r m => r = .agg [.view (image a).length 1 (nums .i64 (image a)), .view (image b).length 1 (nums .i64 (image b))] ∧ m = []) :=
  AC.of_fagg (args := [.agg [.view n1 1 (nums .i64 a), .view n2 1 (nums .i64 b)]]) (sig11_at n1 n2 a b h1 h2 ha hb)
theorem samesig_ag (n1 n2 n3 n4 : Nat) (a b c d : List Int) (h1 : n1 = a.length) (h2 : n2 = b.length) (h3 : n3 = c.length) (h4 : n4 = d.length) (ha : a.length ≤ 1000000000000000) (hb : b.length ≤ 1000000000000000) :
    AC Try.prog 18 [.agg [.view n1 1 (nums .i64 a), .view n2 1 (nums .i64 b)], .agg [.view n3 1 (nums .i64 c), .view n4 1 (nums .i64 d)]] (fun r m => r = .bool (decide (a = c) && decide (b = d)) ∧ m = []) :=
  AC.of_fagg (args := [.agg [.view n1 1 (nums .i64 a), .view n2 1 (nums .i64 b)], .agg [.view n3 1 (nums .i64 c), .view n4 1 (nums .i64 d)]]) (samesig_at n1 n2 n3 n4 a b c d h1 h2 h3 h4 ha hb)

set_option maxRecDepth 4000 in
set_option maxHeartbeats 400000 in
theorem splitTypes_ok (xs ys : List Int) (hx : xs.length ≤ 1048576) (hy : ys.length ≤ 1048576) :
    AC Try.prog 3 [.view xs.length 1 (nums .i64 xs), .view ys.length 1 (nums .i64 ys)] (fun r m => r = .bool true ∧ m = []) := by
  refine AC.enter Try.func3 rfl (Nat.le_of_ble_eq_true rfl) ?_
  simp only [Try.f3]
  repeat' (first
    | refine AW.seq ?_
    | refine AW.block ?_
    | refine AW.region ?_
    | (refine AW.skip ?_; (try simp only [thenQ, blockQ, ↓reduceIte, Nat.reduceEqDiff]))
    | (refine AW.ret ?_; (try simp only [thenQ, blockQ, ↓reduceIte, Nat.reduceEqDiff]))
    | (refine AW.exit ?_; (try simp only [thenQ, blockQ, ↓reduceIte, Nat.reduceEqDiff]))
    | (refine AWL.nil ?_; (try simp only [thenQ, blockQ, ↓reduceIte, Nat.reduceEqDiff]))
    | (refine DQ.nil ?_; (try simp only [thenQ, blockQ, ↓reduceIte, Nat.reduceEqDiff]))
    | ((first
      | (refine AWL.op (sl := SL) rfl rfl ?_ ?_)
      | (refine DQ.op rfl rfl rfl rfl rfl ?_ ?_)
      | (refine DQ.yes rfl ?_ ?_)
      | (refine DQ.step rfl rfl rfl rfl (QStep.assign rfl) ?_)
      | (refine AWL.frzA rfl rfl ?_)
      | (refine AWL.callV (f := 9) rfl rfl rfl rfl ?_ (Nat.le_of_ble_eq_true rfl) rfl (awake_ok) ?_; (focus kernel_rfl))
      | (refine AWL.call (f := 9) rfl rfl rfl ?_ rfl (Nat.le_of_ble_eq_true rfl) rfl (awake_ok) ?_; (focus kernel_rfl))
      | (refine DQ.step rfl rfl rfl rfl (QStep.call (f := 9) rfl ?_ rfl (awake_ok) (fun _ _ h => h) (fun _ => rfl)) ?_; (focus kernel_rfl))
      | (refine DQ.yesC (QStep.call (f := 9) rfl ?_ rfl (awake_ok) (fun _ _ h => h) (fun _ => rfl)) ?_; (focus kernel_rfl))
      | (refine AWL.callV (f := 10) rfl rfl rfl rfl ?_ (Nat.le_of_ble_eq_true rfl) rfl (sig10_ag _ _ _ _ ?_ ?_ ?_ ?_) ?_; (focus kernel_rfl))
      | (refine AWL.call (f := 10) rfl rfl rfl ?_ rfl (Nat.le_of_ble_eq_true rfl) rfl (sig10_ag _ _ _ _ ?_ ?_ ?_ ?_) ?_; (focus kernel_rfl))
      | (refine DQ.step rfl rfl rfl rfl (QStep.call (f := 10) rfl ?_ rfl (sig10_ag _ _ _ _ ?_ ?_ ?_ ?_) (fun _ _ h => h) (fun _ => rfl)) ?_; (focus kernel_rfl))
      | (refine DQ.yesC (QStep.call (f := 10) rfl ?_ rfl (sig10_ag _ _ _ _ ?_ ?_ ?_ ?_) (fun _ _ h => h) (fun _ => rfl)) ?_; (focus kernel_rfl))
      | (refine AWL.callV (f := 11) rfl rfl rfl rfl ?_ (Nat.le_of_ble_eq_true rfl) rfl (sig11_ag _ _ _ _ ?_ ?_ ?_ ?_) ?_; (focus kernel_rfl))
      | (refine AWL.call (f := 11) rfl rfl rfl ?_ rfl (Nat.le_of_ble_eq_true rfl) rfl (sig11_ag _ _ _ _ ?_ ?_ ?_ ?_) ?_; (focus kernel_rfl))
      | (refine DQ.step rfl rfl rfl rfl (QStep.call (f := 11) rfl ?_ rfl (sig11_ag _ _ _ _ ?_ ?_ ?_ ?_) (fun _ _ h => h) (fun _ => rfl)) ?_; (focus kernel_rfl))
      | (refine DQ.yesC (QStep.call (f := 11) rfl ?_ rfl (sig11_ag _ _ _ _ ?_ ?_ ?_ ?_) (fun _ _ h => h) (fun _ => rfl)) ?_; (focus kernel_rfl))
      | (refine AWL.callV (f := 12) rfl rfl rfl rfl ?_ (Nat.le_of_ble_eq_true rfl) rfl (width_at _ _ ?_ ?_) ?_; (focus kernel_rfl))
      | (refine AWL.call (f := 12) rfl rfl rfl ?_ rfl (Nat.le_of_ble_eq_true rfl) rfl (width_at _ _ ?_ ?_) ?_; (focus kernel_rfl))
      | (refine DQ.step rfl rfl rfl rfl (QStep.call (f := 12) rfl ?_ rfl (width_at _ _ ?_ ?_) (fun _ _ h => h) (fun _ => rfl)) ?_; (focus kernel_rfl))
      | (refine DQ.yesC (QStep.call (f := 12) rfl ?_ rfl (width_at _ _ ?_ ?_) (fun _ _ h => h) (fun _ => rfl)) ?_; (focus kernel_rfl))
      | (refine AWL.callV (f := 13) rfl rfl rfl rfl ?_ (Nat.le_of_ble_eq_true rfl) rfl (rtypes_look _ _ ?_ ?_) ?_; (focus kernel_rfl))
      | (refine AWL.call (f := 13) rfl rfl rfl ?_ rfl (Nat.le_of_ble_eq_true rfl) rfl (rtypes_look _ _ ?_ ?_) ?_; (focus kernel_rfl))
      | (refine DQ.step rfl rfl rfl rfl (QStep.call (f := 13) rfl ?_ rfl (rtypes_look _ _ ?_ ?_) (fun _ _ h => h) (fun _ => rfl)) ?_; (focus kernel_rfl))
      | (refine DQ.yesC (QStep.call (f := 13) rfl ?_ rfl (rtypes_look _ _ ?_ ?_) (fun _ _ h => h) (fun _ => rfl)) ?_; (focus kernel_rfl))
      | (refine AWL.callV (f := 15) rfl rfl rfl rfl ?_ (Nat.le_of_ble_eq_true rfl) rfl (types_look _ _ ?_ ?_) ?_; (focus kernel_rfl))
      | (refine AWL.call (f := 15) rfl rfl rfl ?_ rfl (Nat.le_of_ble_eq_true rfl) rfl (types_look _ _ ?_ ?_) ?_; (focus kernel_rfl))
      | (refine DQ.step rfl rfl rfl rfl (QStep.call (f := 15) rfl ?_ rfl (types_look _ _ ?_ ?_) (fun _ _ h => h) (fun _ => rfl)) ?_; (focus kernel_rfl))
      | (refine DQ.yesC (QStep.call (f := 15) rfl ?_ rfl (types_look _ _ ?_ ?_) (fun _ _ h => h) (fun _ => rfl)) ?_; (focus kernel_rfl))
      | (refine AWL.callV (f := 14) rfl rfl rfl rfl ?_ (Nat.le_of_ble_eq_true rfl) rfl (same_at _ _ _ _ ?_ ?_ ?_) ?_; (focus kernel_rfl))
      | (refine AWL.call (f := 14) rfl rfl rfl ?_ rfl (Nat.le_of_ble_eq_true rfl) rfl (same_at _ _ _ _ ?_ ?_ ?_) ?_; (focus kernel_rfl))
      | (refine DQ.step rfl rfl rfl rfl (QStep.call (f := 14) rfl ?_ rfl (same_at _ _ _ _ ?_ ?_ ?_) (fun _ _ h => h) (fun _ => rfl)) ?_; (focus kernel_rfl))
      | (refine DQ.yesC (QStep.call (f := 14) rfl ?_ rfl (same_at _ _ _ _ ?_ ?_ ?_) (fun _ _ h => h) (fun _ => rfl)) ?_; (focus kernel_rfl))
      | (refine AWL.callV (f := 16) rfl rfl rfl rfl ?_ (Nat.le_of_ble_eq_true rfl) rfl (off_look _ _ ?_ ?_) ?_; (focus kernel_rfl))
      | (refine AWL.call (f := 16) rfl rfl rfl ?_ rfl (Nat.le_of_ble_eq_true rfl) rfl (off_look _ _ ?_ ?_) ?_; (focus kernel_rfl))
      | (refine DQ.step rfl rfl rfl rfl (QStep.call (f := 16) rfl ?_ rfl (off_look _ _ ?_ ?_) (fun _ _ h => h) (fun _ => rfl)) ?_; (focus kernel_rfl))
      | (refine DQ.yesC (QStep.call (f := 16) rfl ?_ rfl (off_look _ _ ?_ ?_) (fun _ _ h => h) (fun _ => rfl)) ?_; (focus kernel_rfl))
      | (refine AWL.callV (f := 17) rfl rfl rfl rfl ?_ (Nat.le_of_ble_eq_true rfl) rfl (roff_look _ _ ?_ ?_) ?_; (focus kernel_rfl))
      | (refine AWL.call (f := 17) rfl rfl rfl ?_ rfl (Nat.le_of_ble_eq_true rfl) rfl (roff_look _ _ ?_ ?_) ?_; (focus kernel_rfl))
      | (refine DQ.step rfl rfl rfl rfl (QStep.call (f := 17) rfl ?_ rfl (roff_look _ _ ?_ ?_) (fun _ _ h => h) (fun _ => rfl)) ?_; (focus kernel_rfl))
      | (refine DQ.yesC (QStep.call (f := 17) rfl ?_ rfl (roff_look _ _ ?_ ?_) (fun _ _ h => h) (fun _ => rfl)) ?_; (focus kernel_rfl))
      | (refine AWL.callV (f := 18) rfl rfl rfl rfl ?_ (Nat.le_of_ble_eq_true rfl) rfl (samesig_ag _ _ _ _ _ _ _ _ ?_ ?_ ?_ ?_ ?_ ?_) ?_; (focus kernel_rfl))
      | (refine AWL.call (f := 18) rfl rfl rfl ?_ rfl (Nat.le_of_ble_eq_true rfl) rfl (samesig_ag _ _ _ _ _ _ _ _ ?_ ?_ ?_ ?_ ?_ ?_) ?_; (focus kernel_rfl))
      | (refine DQ.step rfl rfl rfl rfl (QStep.call (f := 18) rfl ?_ rfl (samesig_ag _ _ _ _ _ _ _ _ ?_ ?_ ?_ ?_ ?_ ?_) (fun _ _ h => h) (fun _ => rfl)) ?_; (focus kernel_rfl))
      | (refine DQ.yesC (QStep.call (f := 18) rfl ?_ rfl (samesig_ag _ _ _ _ _ _ _ _ ?_ ?_ ?_ ?_ ?_ ?_) (fun _ _ h => h) (fun _ => rfl)) ?_; (focus kernel_rfl))
      | fail) <;> (first | ((first | show AWL _ _ _ _ _ | show DQ _ _ _ _ _ _ | show AW _ _ _ _ | (rintro _ _ ⟨rfl, rfl⟩; (try refine And.intro rfl ?_))); (try simp (disch := omega) only [NS, Nat.reduceBEq, Nat.reduceAdd, Nat.reduceMul, TY, slx, eq_self, decide_true, Bool.and_self])) | (focus ((first | exact trivial | omega | exact ld_nums i3 _ _ (by first | assumption | omega) | (exact (offsTo_len _ _).symm) | (rw [offsTo_len]; omega) | (have := image_len xs; have := image_len ys; (try simp only [offsTo_len]); omega) | (show _ ≤ _; omega) | (simp only [List.length_take, List.length_drop, List.length_append, List.length_cons, List.length_nil]; omega) | ((repeat' (first | exact trivial | exact rfl | exact Nat.le_of_ble_eq_true rfl | refine And.intro ?_ ?_ | fail)); done) | ((try simp (disch := omega) only [NS, Nat.reduceBEq, Nat.reduceAdd, Nat.reduceMul, TY, slx, eq_self, decide_true, Bool.and_self]); (repeat' (first | exact trivial | exact rfl | exact ⟨_, _, rfl⟩ | exact ⟨_, rfl⟩ | exact Nat.le_of_ble_eq_true rfl | exact Nat.zero_lt_succ _ | omega | refine And.intro ?_ ?_ | fail)); done)); done))))
    | (refine AWL.guard2 rfl rfl rfl rfl rfl rfl ?_ ?_ <;> (intro hc; (try simp only [Bool.not_true, Bool.not_false] at hc); first | (cases hc; done) | ((try simp only [hc]); (try simp only [beq_iff_eq, bne_iff_ne, decide_eq_true_eq, decide_eq_false_iff_not, beq_eq_false_iff_ne, bne_eq_false_iff_eq, ne_eq, Bool.not_eq_true, Bool.not_eq_false, Bool.not_eq_eq_eq_not, Bool.not_true, Bool.not_false, Decidable.not_not, Int.not_lt, Int.not_le] at hc); (try (exfalso; omega)))))
    | (refine AWL.guard2 rfl rfl rfl rfl rfl rfl (fun hc => ?_) ?_; (cases hc; done))
    | (refine AW.drawn false hmix ?_ ?_; (focus kernel_rfl))
    | refine DQ.tail rfl ?_
    | (refine DQ.guard2 rfl rfl rfl rfl rfl rfl rfl ?_ ?_ <;> (intro hc; (try simp only [Bool.not_true, Bool.not_false] at hc); first | (cases hc; done) | ((try simp only [hc]); (try simp only [beq_iff_eq, bne_iff_ne, decide_eq_true_eq, decide_eq_false_iff_not, beq_eq_false_iff_ne, bne_eq_false_iff_eq, ne_eq, Bool.not_eq_true, Bool.not_eq_false, Bool.not_eq_eq_eq_not, Bool.not_true, Bool.not_false, Decidable.not_not, Int.not_lt, Int.not_le] at hc); (try (exfalso; omega)))))
    | (refine AW.cond rfl (fun hc => ?_) (fun hc => ?_) <;> first | (cases hc; done) | ((try simp only [beq_iff_eq, bne_iff_ne, decide_eq_true_eq, decide_eq_false_iff_not, beq_eq_false_iff_ne, bne_eq_false_iff_eq, ne_eq, Bool.not_eq_true, Bool.not_eq_false, Bool.not_eq_eq_eq_not, Bool.not_true, Bool.not_false, Decidable.not_not, Int.not_lt, Int.not_le] at hc); (try (exfalso; omega))))
    | (refine EndQ.mk rfl rfl rfl ?_ ?_ ?_; (focus (first | exact Or.inl rfl | exact Or.inr rfl)); (focus ((first | exact trivial | omega | exact ld_nums i3 _ _ (by first | assumption | omega) | (exact (offsTo_len _ _).symm) | (rw [offsTo_len]; omega) | (have := image_len xs; have := image_len ys; (try simp only [offsTo_len]); omega) | (show _ ≤ _; omega) | (simp only [List.length_take, List.length_drop, List.length_append, List.length_cons, List.length_nil]; omega) | ((repeat' (first | exact trivial | exact rfl | exact Nat.le_of_ble_eq_true rfl | refine And.intro ?_ ?_ | fail)); done) | ((try simp (disch := omega) only [NS, Nat.reduceBEq, Nat.reduceAdd, Nat.reduceMul, TY, slx, eq_self, decide_true, Bool.and_self]); (repeat' (first | exact trivial | exact rfl | exact ⟨_, _, rfl⟩ | exact ⟨_, rfl⟩ | exact Nat.le_of_ble_eq_true rfl | exact Nat.zero_lt_succ _ | omega | refine And.intro ?_ ?_ | fail)); done)); done)); (try simp (disch := omega) only [NS, Nat.reduceBEq, Nat.reduceAdd, Nat.reduceMul, TY, slx, eq_self, decide_true, Bool.and_self]))
    | fail)
  all_goals first | exact ⟨trivial, trivial⟩ | exact ⟨rfl, trivial⟩
end Go.Proofs.Ytbdmieljkgcpcaa
