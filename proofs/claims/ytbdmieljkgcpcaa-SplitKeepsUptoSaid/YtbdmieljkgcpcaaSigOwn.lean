/- split.Sig, whose answer is the caller's own. -/
import Derived.Test.YtbdmieljkgcpcaaV4
import Derived.Test.YtbdmieljkgcpcaaTypes
namespace Go.Proofs.Ytbdmieljkgcpcaa
set_option linter.unusedSimpArgs false
set_option linter.unusedVariables false
open Go Go.Abs
attribute [local irreducible] AW AWL AC FW CW CWr IntKind.wrap

set_option maxHeartbeats 800000 in
theorem sig10_own (n1 n2 : Nat) (a b : List Int) (c1 c2 : List V) (h1 : n1 = a.length) (h2 : n2 = b.length) (e1 : c1 = nums .i64 a) (e2 : c2 = nums .i64 b) (ha : a.length * 16 ≤ 140737488351232) (hb : b.length * 16 ≤ 140737488351232) :
    AC Try.prog 10 [.fagg [.view n1 1 c1, .view n2 1 c2]] (fun r m => r = .agg [.ref 3005 0 (image a).length 1, .ref 3008 0 (image b).length 1] ∧ m = [(3005, nums .i64 (image a)), (3008, nums .i64 (image b))]) := by
  subst h1; subst h2; subst e1; subst e2
  refine AC.enter Try.func10 rfl (Nat.le_of_ble_eq_true rfl) ?_
  simp only [Try.f10]
  repeat' (first
    | refine AW.seq ?_
    | refine AW.block ?_
    | refine AW.region ?_
    | (refine AW.skip ?_; (try simp only [thenQ, blockQ, ↓reduceIte, Nat.reduceEqDiff]))
    | (refine AW.ret ?_; (try simp only [thenQ, blockQ, ↓reduceIte, Nat.reduceEqDiff]))
    | (refine AW.exit ?_; (try simp only [thenQ, blockQ, ↓reduceIte, Nat.reduceEqDiff]))
    | (refine AWL.nil ?_; (try simp only [thenQ, blockQ, ↓reduceIte, Nat.reduceEqDiff]))
    | (refine DQ.nil ?_; (try simp only [thenQ, blockQ, ↓reduceIte, Nat.reduceEqDiff]))
    | refine FW.nil ?_
    | refine FW.pass rfl rfl ?_
    | refine FW.go rfl ?_
    | (refine CW.nil ?_; (try simp only [thenQ, blockQ, ↓reduceIte, Nat.reduceEqDiff]))
    | refine CW.skip rfl rfl ?_
    | refine CW.step rfl rfl rfl rfl rfl ?_
    | ((first
      | (refine AWL.op (sl := SL) rfl rfl ?_ ?_)
      | (refine DQ.op rfl rfl rfl rfl rfl ?_ ?_)
      | (refine DQ.yes rfl ?_ ?_)
      | (refine DQ.step rfl rfl rfl rfl (QStep.assign rfl) ?_)
      | (refine FW.float rfl rfl rfl rfl rfl ?_)
      | (refine CWr.op rfl ?_ ?_ ?_)
      | (refine CWr.assign rfl ?_ ?_)
      | (refine CWr.alloc rfl rfl rfl rfl ?_)
      | (refine CWr.build rfl rfl rfl rfl ?_ rfl rfl rfl ?_)
      | (refine AWL.callA (f := 15) rfl rfl rfl ?_ (Nat.le_of_ble_eq_true rfl) ?_ (types_at ?_ ?_ ?_ ?_) rfl ?_; (focus kernel_rfl); (focus (simp (disch := omega) only [VW, List.toList_toArray, List.map_cons, List.map_nil, NS, St.add, St.wm, St.wipe1, St.wipeL, callObjs, callKs, ikey, Nat.reduceBEq, Nat.reduceAdd, Nat.reduceMul, TY, slx]; (try exact rfl); done)))
      | (refine CWr.callA (f := 15) rfl ?_ ?_ (types_at ?_ ?_ ?_ ?_) rfl (fun _ _ h => h) rfl ⟨nvsB_spec rfl, (by repeat' (first | exact nvm_nil | refine nvm_cons ?_ ?_ | exact nv_nums _ _ | exact nv_all rfl))⟩ ?_ ?_ ?_; (focus kernel_rfl); (focus (simp (disch := omega) only [VW, List.toList_toArray, List.map_cons, List.map_nil, NS, St.add, St.wm, St.wipe1, St.wipeL, callObjs, callKs, ikey, Nat.reduceBEq, Nat.reduceAdd, Nat.reduceMul, TY, slx]; (try exact rfl); done)))
      | (refine DQ.step rfl rfl rfl rfl (QStep.callS (f := 15) rfl ?_ rfl (types_at ?_ ?_ ?_ ?_) (fun _ _ h => h) (fun _ => rfl) (nvsB_spec rfl)) ?_; (focus kernel_rfl))
      | (refine DQ.yesC (QStep.callS (f := 15) rfl ?_ rfl (types_at ?_ ?_ ?_ ?_) (fun _ _ h => h) (fun _ => rfl) (nvsB_spec rfl)) ?_; (focus kernel_rfl))
      | fail) <;> (first | ((first | show AWL _ _ _ _ _ | show DQ _ _ _ _ _ _ | show AW _ _ _ _ | show FW _ _ _ _ _ _ _ _ _ _ | show CW _ _ _ _ _ _ _ _ _ _ _ _ | (rintro _ _ ⟨rfl, rfl⟩; (try refine And.intro rfl ?_) ; (try refine And.intro ⟨nvsB_spec rfl, (by repeat' (first | exact nvm_nil | refine nvm_cons ?_ ?_ | exact nv_nums _ _ | exact nv_all rfl))⟩ ?_))); (try simp (disch := omega) only [NS, setI_nums, setI_nums2, List.filterMap_cons, List.filterMap_nil, Option.map_some, Option.map_none, St.add, St.wm, St.wipe1, St.wipeL, callObjs, callKs, ikey, List.nil_append, List.cons_append, Nat.reduceBEq, Nat.reduceAdd, Nat.reduceMul, TY, slx])) | (focus ((first | exact trivial | omega | ((show newKs _ _ _ = true); kernel_rfl) | ((show FitV _ _ _ _ _ _); (repeat' (first | exact trivial | exact Or.inr (Or.inl rfl) | exact Or.inl rfl | exact Or.inr (Or.inr rfl) | refine And.intro ?_ ?_)); done) | exact ld_nums i3 _ _ (by first | assumption | omega | (simp only [List.length_append, offsTo_len]; omega)) | (show _ ≤ _; omega) | (simp only [List.length_take, List.length_drop, List.length_append, List.length_cons, List.length_nil]; omega) | ((repeat' (first | exact trivial | exact rfl | exact Nat.le_of_ble_eq_true rfl | refine And.intro ?_ ?_ | fail)); done) | ((try simp (disch := omega) only [NS, setI_nums, setI_nums2, List.filterMap_cons, List.filterMap_nil, Option.map_some, Option.map_none, St.add, St.wm, St.wipe1, St.wipeL, callObjs, callKs, ikey, List.nil_append, List.cons_append, Nat.reduceBEq, Nat.reduceAdd, Nat.reduceMul, TY, slx]); (repeat' (first | exact trivial | exact rfl | exact ⟨_, _, rfl⟩ | exact ⟨_, rfl⟩ | exact Nat.le_of_ble_eq_true rfl | exact Nat.zero_lt_succ _ | omega | refine And.intro ?_ ?_ | fail)); done)); done))))
    | (refine AWL.guard2 rfl rfl rfl rfl rfl rfl ?_ ?_ <;> (intro hc; (try simp only [Bool.not_true, Bool.not_false] at hc); first | (cases hc; done) | ((try simp only [hc]); (try simp only [beq_iff_eq, bne_iff_ne, decide_eq_true_eq, decide_eq_false_iff_not, beq_eq_false_iff_ne, bne_eq_false_iff_eq, ne_eq, Bool.not_eq_true, Bool.not_eq_false, Bool.not_eq_eq_eq_not, Bool.not_true, Bool.not_false, Decidable.not_not, Int.not_lt, Int.not_le] at hc); (try (exfalso; omega)); (try (guard_hyp hc : True; clear hc)))))
    | (refine AWL.guard2 rfl rfl rfl rfl rfl rfl (fun hc => ?_) ?_; (cases hc; done))
    | (refine AW.calm false [] [3005, 3008] (id := 1) hmix (by (repeat' (first | exact panOk_end | exact panOk_endM | refine panOk_then ?_ | refine panOk_block ?_))) ?_ rfl ?_; (focus (as_aux_lemma => kernel_rfl)); (try simp (disch := omega) only [NS, setI_nums, setI_nums2, List.filterMap_cons, List.filterMap_nil, Option.map_some, Option.map_none, St.add, St.wm, St.wipe1, St.wipeL, callObjs, callKs, ikey, List.nil_append, List.cons_append, Nat.reduceBEq, Nat.reduceAdd, Nat.reduceMul, TY, slx]))
    | (refine AW.calm false [] [] hmix (by (repeat' (first | exact panOk_end | exact panOk_endM | refine panOk_then ?_ | refine panOk_block ?_))) ?_ rfl ?_; (focus (as_aux_lemma => kernel_rfl)); (try simp (disch := omega) only [NS, setI_nums, setI_nums2, List.filterMap_cons, List.filterMap_nil, Option.map_some, Option.map_none, St.add, St.wm, St.wipe1, St.wipeL, callObjs, callKs, ikey, List.nil_append, List.cons_append, Nat.reduceBEq, Nat.reduceAdd, Nat.reduceMul, TY, slx]))
    | (refine CW.guard2 rfl rfl rfl rfl rfl rfl rfl rfl ?_ ?_ <;> (intro hc; (try simp only [Bool.not_true, Bool.not_false] at hc); first | (cases hc; done) | ((try simp only [hc]); (try simp only [beq_iff_eq, bne_iff_ne, decide_eq_true_eq, decide_eq_false_iff_not, beq_eq_false_iff_ne, bne_eq_false_iff_eq, ne_eq, Bool.not_eq_true, Bool.not_eq_false, Bool.not_eq_eq_eq_not, Bool.not_true, Bool.not_false, Decidable.not_not, Int.not_lt, Int.not_le] at hc); (try (exfalso; omega)); (try (guard_hyp hc : True; clear hc)))))
    | (refine CW.guardU rfl rfl rfl rfl rfl rfl rfl rfl ?_; (try simp (disch := omega) only [NS, setI_nums, setI_nums2, List.filterMap_cons, List.filterMap_nil, Option.map_some, Option.map_none, St.add, St.wm, St.wipe1, St.wipeL, callObjs, callKs, ikey, List.nil_append, List.cons_append, Nat.reduceBEq, Nat.reduceAdd, Nat.reduceMul, TY, slx]))
    | refine CW.tail rfl ?_
    | (refine AWL.guardU rfl rfl rfl rfl rfl rfl ?_; (try simp (disch := omega) only [NS, setI_nums, setI_nums2, List.filterMap_cons, List.filterMap_nil, Option.map_some, Option.map_none, St.add, St.wm, St.wipe1, St.wipeL, callObjs, callKs, ikey, List.nil_append, List.cons_append, Nat.reduceBEq, Nat.reduceAdd, Nat.reduceMul, TY, slx]))
    | (refine DQ.guardU rfl rfl rfl rfl rfl rfl rfl ?_; (try simp (disch := omega) only [NS, setI_nums, setI_nums2, List.filterMap_cons, List.filterMap_nil, Option.map_some, Option.map_none, St.add, St.wm, St.wipe1, St.wipeL, callObjs, callKs, ikey, List.nil_append, List.cons_append, Nat.reduceBEq, Nat.reduceAdd, Nat.reduceMul, TY, slx]))
    | refine DQ.tail rfl ?_
    | (refine DQ.guard2 rfl rfl rfl rfl rfl rfl rfl ?_ ?_ <;> (intro hc; (try simp only [Bool.not_true, Bool.not_false] at hc); first | (cases hc; done) | ((try simp only [hc]); (try simp only [beq_iff_eq, bne_iff_ne, decide_eq_true_eq, decide_eq_false_iff_not, beq_eq_false_iff_ne, bne_eq_false_iff_eq, ne_eq, Bool.not_eq_true, Bool.not_eq_false, Bool.not_eq_eq_eq_not, Bool.not_true, Bool.not_false, Decidable.not_not, Int.not_lt, Int.not_le] at hc); (try (exfalso; omega)); (try (guard_hyp hc : True; clear hc)))))
    | (refine AW.cond rfl (fun hc => ?_) (fun hc => ?_) <;> first | (cases hc; done) | ((try simp only [beq_iff_eq, bne_iff_ne, decide_eq_true_eq, decide_eq_false_iff_not, beq_eq_false_iff_ne, bne_eq_false_iff_eq, ne_eq, Bool.not_eq_true, Bool.not_eq_false, Bool.not_eq_eq_eq_not, Bool.not_true, Bool.not_false, Decidable.not_not, Int.not_lt, Int.not_le] at hc); (try (exfalso; omega)); (try (guard_hyp hc : True; clear hc))))
    | (refine EndQ.mk rfl rfl rfl ?_ ?_ ?_; (focus (first | exact Or.inl rfl | exact Or.inr rfl)); (focus ((first | exact trivial | omega | ((show newKs _ _ _ = true); kernel_rfl) | ((show FitV _ _ _ _ _ _); (repeat' (first | exact trivial | exact Or.inr (Or.inl rfl) | exact Or.inl rfl | exact Or.inr (Or.inr rfl) | refine And.intro ?_ ?_)); done) | exact ld_nums i3 _ _ (by first | assumption | omega | (simp only [List.length_append, offsTo_len]; omega)) | (show _ ≤ _; omega) | (simp only [List.length_take, List.length_drop, List.length_append, List.length_cons, List.length_nil]; omega) | ((repeat' (first | exact trivial | exact rfl | exact Nat.le_of_ble_eq_true rfl | refine And.intro ?_ ?_ | fail)); done) | ((try simp (disch := omega) only [NS, setI_nums, setI_nums2, List.filterMap_cons, List.filterMap_nil, Option.map_some, Option.map_none, St.add, St.wm, St.wipe1, St.wipeL, callObjs, callKs, ikey, List.nil_append, List.cons_append, Nat.reduceBEq, Nat.reduceAdd, Nat.reduceMul, TY, slx]); (repeat' (first | exact trivial | exact rfl | exact ⟨_, _, rfl⟩ | exact ⟨_, rfl⟩ | exact Nat.le_of_ble_eq_true rfl | exact Nat.zero_lt_succ _ | omega | refine And.intro ?_ ?_ | fail)); done)); done)); (try simp (disch := omega) only [NS, setI_nums, setI_nums2, List.filterMap_cons, List.filterMap_nil, Option.map_some, Option.map_none, St.add, St.wm, St.wipe1, St.wipeL, callObjs, callKs, ikey, List.nil_append, List.cons_append, Nat.reduceBEq, Nat.reduceAdd, Nat.reduceMul, TY, slx]))
    | fail)
  all_goals first | exact ⟨trivial, trivial⟩ | exact ⟨rfl, rfl⟩ | trace_state
theorem types_S (n : Nat) (cs : List V) (xs : List Int) (hn : n = xs.length) (hc : cs = nums .i64 xs) (hlen : xs.length * 16 ≤ 140737488351232) : AC Try.prog 15 [.view n 1 cs] (fun r m => r = .ref 2 0 (image xs).length 1 ∧ m = [(2, nums .i64 (image xs))]) := by
  subst hn; subst hc; exact types_ok xs hlen
theorem sig10_S (n1 n2 : Nat) (a b : List Int) (h1 : n1 = a.length) (h2 : n2 = b.length) (ha : a.length * 16 ≤ 140737488351232) (hb : b.length * 16 ≤ 140737488351232) :
    AC Try.prog 10 [.agg [.view n1 1 (nums .i64 a), .view n2 1 (nums .i64 b)]] (fun r m => r = .agg [.ref 3005 0 (image a).length 1, .ref 3008 0 (image b).length 1] ∧ m = [(3005, nums .i64 (image a)), (3008, nums .i64 (image b))]) :=
  AC.of_fagg (sig10_own n1 n2 a b _ _ h1 h2 rfl rfl ha hb)
end Go.Proofs.Ytbdmieljkgcpcaa
