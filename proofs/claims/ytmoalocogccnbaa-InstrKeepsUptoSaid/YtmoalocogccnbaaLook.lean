/- Of, looked at; Same. -/
import Derived.Test.YtmoalocogccnbaaV5
import Derived.Test.YtmoalocogccnbaaOf
import Derived.Test.YtmoalocogccnbaaROf
import Derived.Test.YtmoalocogccnbaaSameT
namespace Go.Proofs.Ytmoalocogccnbaa
set_option linter.unusedSimpArgs false
set_option linter.unusedVariables false
open Go Go.Abs
attribute [local irreducible] AW AWL AC FW CW CWr IntKind.wrap

/-- an Info whose lists are looked at -/
def infoL (i : InfoS) : V := .agg [.int .i64 i.1, .int .i64 i.2.1, .bool i.2.2.1, .view i.2.2.2.1.length 1 (nums .i64 i.2.2.2.1), .view i.2.2.2.2.length 1 (nums .i64 i.2.2.2.2)]
theorem info_look (i : InfoS) (b : Bool) : frz1 3004 (nums .i64 i.2.2.2.2) (frz1 3003 (nums .i64 i.2.2.2.1) (.tup [infoV i, .bool b])) = .tup [infoL i, .bool b] := by
  simp [frz1, infoV, infoL, V.frz, V.wipe, List.take_of_length_le (Nat.le_of_eq (nums_length .i64 _))]
theorem of_look (op : Int) : AC Try.prog 9 [.int .i64 op] (fun r m => r = .tup [infoL (ofS op).1, .bool (ofS op).2] ∧ m = []) := by
  have := (of_ok op).frzF.frzF
  rw [info_look] at this
  exact this
theorem rof_look (op : Int) : AC Try.prog 13 [.int .i64 op] (fun r m => r = .tup [infoL (ofS op).1, .bool (ofS op).2] ∧ m = []) := by
  have := (rof_ok op).frzF.frzF
  rw [info_look] at this
  exact this
set_option maxHeartbeats 3200000 in
theorem same_walk (f1 l1 f2 l2 : Int) (p1 p2 : Bool) (I1 U1 I2 U2 : List Int) (h1 : I1.length ≤ 1000) (h2 : U1.length ≤ 1000) : AC Try.prog 10 [.agg [.int .i64 f1, .int .i64 l1, .bool p1, .view I1.length 1 (nums .i64 I1), .view U1.length 1 (nums .i64 U1)], .agg [.int .i64 f2, .int .i64 l2, .bool p2, .view I2.length 1 (nums .i64 I2), .view U2.length 1 (nums .i64 U2)]]
    (fun r m => r = .bool (decide (f1 = f2 ∧ l1 = l2 ∧ p1 = p2 ∧ I1 = I2 ∧ U1 = U2)) ∧ m = []) := by
  refine AC.enter Try.func10 rfl (Nat.le_of_ble_eq_true rfl) ?_
  simp only [Try.f10]
  have hchk : True := by simp only [TY, List.set_cons_zero, List.set_cons_succ, sl27, sl25, sl36, sl3, sl4, sl5, sl9, nums_length, byts_V, byts_len]
  repeat' (first
    | (refine AWL.opN (sl := SL) rfl rfl rfl trivial ?_; (try (conv => arg -1; simp (disch := omega) only [NSX, Nat.reduceBEq, Nat.reduceAdd, Nat.reduceMul, Int.reduceToNat, Nat.reduceSub, TY, List.set_cons_zero, List.set_cons_succ, sl27, sl25, sl36, sl3, sl4, sl5, sl9, nums_length, byts_V, byts_len])))
    | (refine AW.seqQ ?_; intro Qn hQn)
    | (refine AW.blockQ ?_; intro Qn hQn)
    | refine AW.region ?_
    | ((first | refine AW.skip ?_ | refine AW.ret ?_ | refine AW.exit ?_ | refine AWL.nil ?_ | refine CW.nil ?_); (repeat (first | refine QEq.mp (by assumption) ?_ | simp only [thenQ, Go.Abs.blockQ, ↓reduceIte, Nat.reduceEqDiff])))
    | refine FW.nil ?_
    | refine FW.pass rfl rfl ?_
    | refine FW.go rfl ?_
    | refine CW.skip rfl rfl ?_
    | refine CW.step rfl rfl rfl rfl rfl ?_
    | ((first
      | (refine AWL.boxF (t := 36) rfl rfl rfl rfl rfl ?_)
      | (refine AWL.allocF (t := 36) rfl rfl rfl rfl rfl rfl ?_)
      | (refine CWr.allocF (t := 36) rfl rfl rfl ?_ ?_)
      | (refine AWL.op (sl := SL) rfl rfl ?_ ?_)
      | (refine FW.float rfl rfl rfl rfl rfl ?_)
      | (refine CWr.op rfl ?_ ?_ ?_)
      | (refine CWr.assign rfl ?_ ?_)
      | (refine CWr.alloc rfl rfl rfl rfl ?_)
      | (refine CWr.build rfl rfl rfl rfl ?_ rfl rfl rfl ?_)
      | ((show AWL _ _ ({ dst := _, op := _, type := _, pos := _, after := _, guard := none } :: _) _ _); refine AWL.frzA rfl rfl ?_)
      | (refine AWL.callV (f := 17) rfl rfl rfl rfl ?_ (Nat.le_of_ble_eq_true rfl) rfl (sameT_at _ _ _ _ ?_ ?_ ?_) ?_; (focus kernel_rfl))
      | (refine AWL.call (f := 17) rfl rfl rfl ?_ rfl (Nat.le_of_ble_eq_true rfl) rfl (sameT_at _ _ _ _ ?_ ?_ ?_) ?_; (focus kernel_rfl))
      | (refine CWr.call (f := 17) rfl ?_ rfl (sameT_at _ _ _ _ ?_ ?_ ?_) (fun _ _ h => h) ?_ ?_ ?_; (focus kernel_rfl))
      | fail) <;> (try ((first | show AWL _ _ _ _ _ | show AW _ _ _ _ | show FW _ _ _ _ _ _ _ _ _ _ | show CW _ _ _ _ _ _ _ _ _ _ _ _ | (rintro _ _ ⟨rfl, rfl⟩; (try refine And.intro rfl ?_))); (try (conv => arg -1; simp (disch := omega) only [NSX, Nat.reduceBEq, Nat.reduceAdd, Nat.reduceMul, Int.reduceToNat, Nat.reduceSub, TY, List.set_cons_zero, List.set_cons_succ, sl27, sl25, sl36, sl3, sl4, sl5, sl9, nums_length, byts_V, byts_len])))))
    | ((first | refine AWL.guard2 rfl rfl rfl rfl rfl rfl ?_ ?_ | refine CW.guard2 rfl rfl rfl rfl rfl rfl rfl rfl ?_ ?_) <;> (intro hc; (try simp only [Bool.not_true, Bool.not_false] at hc); first | (cases hc; done) | ((try simp only [hc]); (try simp only [beq_iff_eq, bne_iff_ne, decide_eq_true_eq, decide_eq_false_iff_not, beq_eq_false_iff_ne, bne_eq_false_iff_eq, ne_eq, Bool.not_eq_true, Bool.not_eq_false, Bool.not_eq_eq_eq_not, Bool.not_true, Bool.not_false, Decidable.not_not, Int.not_lt, Int.not_le] at hc); (try (exfalso; omega)); (try (guard_hyp hc : True; clear hc)))) <;> (try (first | (with_reducible show AWL _ _ _ _ (St.put _ _ _)) | (with_reducible show CW _ _ _ _ _ _ _ _ _ _ _ (St.put _ _ _))); (try (conv => arg -1; simp (disch := omega) only [NSX, Nat.reduceBEq, Nat.reduceAdd, Nat.reduceMul, Int.reduceToNat, Nat.reduceSub, TY, List.set_cons_zero, List.set_cons_succ, sl27, sl25, sl36, sl3, sl4, sl5, sl9, nums_length, byts_V, byts_len]))))
    | (refine AWL.guard2 rfl rfl rfl rfl rfl rfl (fun hc => ?_) ?_; (cases hc; done))
    | ((first | ((show AW _ (.region _ _ true) _ _); refine AW.calm false [] [] hmix (by (repeat' (first | exact panOk_end | exact panOk_endM | refine panOk_then ?_ | refine panOk_block ?_ | refine QEq.pan (by assumption) ?_))) ?_ rfl ?_; (focus (as_aux_lemma => kernel_rfl))) | refine AWL.guardU rfl rfl rfl rfl rfl rfl ?_ | refine CW.guardU rfl rfl rfl rfl rfl rfl rfl rfl ?_); (try (conv => arg -1; simp (disch := omega) only [NSX, Nat.reduceBEq, Nat.reduceAdd, Nat.reduceMul, Int.reduceToNat, Nat.reduceSub, TY, List.set_cons_zero, List.set_cons_succ, sl27, sl25, sl36, sl3, sl4, sl5, sl9, nums_length, byts_V, byts_len])))
    | refine CW.tail rfl ?_
    | (refine AW.cond rfl (fun hc => ?_) (fun hc => ?_) <;> first | (cases hc; done) | ((try simp only [beq_iff_eq, bne_iff_ne, decide_eq_true_eq, decide_eq_false_iff_not, beq_eq_false_iff_ne, bne_eq_false_iff_eq, ne_eq, Bool.not_eq_true, Bool.not_eq_false, Bool.not_eq_eq_eq_not, Bool.not_true, Bool.not_false, Decidable.not_not, Int.not_lt, Int.not_le] at hc); (try (exfalso; omega)); (try (guard_hyp hc : True; clear hc))))
    | ((refine EndQ.mk rfl rfl rfl ?_ ?_ ?_; (focus (first | exact Or.inl rfl | exact Or.inr rfl))) <;> (try simp (disch := omega) only [NSX, Nat.reduceBEq, Nat.reduceAdd, Nat.reduceMul, Int.reduceToNat, Nat.reduceSub, TY, List.set_cons_zero, List.set_cons_succ, sl27, sl25, sl36, sl3, sl4, sl5, sl9, nums_length, byts_V, byts_len]))
    | (focus ((first | exact trivial | omega | (refine And.intro (by kernel_rfl) (And.intro ⟨_, (by first | exact nums_ints _ _ | rfl), (by first | exact nums_ints _ _ | rfl)⟩ (And.intro ?_ ?_)) <;> (first | rfl | assumption | (simp only [nums_length]; omega) | omega)) | (refine And.intro ?_ (And.intro ?_ ?_); (focus kernel_rfl); (focus kernel_rfl); (focus kernel_rfl)) | ((show newKs _ _ _ = true); kernel_rfl) | ((show FitV _ _ _ _ _ _); (repeat' (first | exact trivial | exact Or.inr (Or.inl rfl) | exact Or.inl rfl | exact Or.inr (Or.inr rfl) | refine And.intro ?_ ?_)); done) | assumption | ((first | refine ld_nums i3 _ _ ?_ | refine ld_nums i5 _ _ ?_ | refine at_nums i3 _ _ ?_ | refine at_nums i5 _ _ ?_); first | assumption | omega | (simp only [List.length_append]; omega)) | (show _ ≤ _; omega) | (simp only [List.length_take, List.length_drop, List.length_append, List.length_cons, List.length_nil]; omega) | ((repeat' (first | exact trivial | exact rfl | exact Nat.le_of_ble_eq_true rfl | refine And.intro ?_ ?_ | fail)); done) | ((try simp (disch := omega) only [NSX, Nat.reduceBEq, Nat.reduceAdd, Nat.reduceMul, Int.reduceToNat, Nat.reduceSub, TY, List.set_cons_zero, List.set_cons_succ, sl27, sl25, sl36, sl3, sl4, sl5, sl9, nums_length, byts_V, byts_len]); (repeat' (first | exact trivial | exact rfl | exact ⟨_, _, rfl⟩ | exact ⟨_, rfl⟩ | exact Nat.le_of_ble_eq_true rfl | exact Nat.zero_lt_succ _ | omega | (simp only [nums_length, byts_len] at *; omega) | refine And.intro ?_ ?_ | fail)); done)); done))
    | fail)
  all_goals first
    | exact ⟨congrArg V.bool (decide_eq_false (fun h => by obtain ⟨a1, a2, a3, a4, a5⟩ := h; contradiction)).symm, trivial⟩
    | exact ⟨congrArg V.bool (decide_eq_decide.2 ⟨fun h => ⟨by assumption, by assumption, by assumption, by assumption, h⟩, fun h => h.2.2.2.2⟩), trivial⟩
    | trace_state
theorem same_ok (a b : InfoS) (h1 : a.2.2.2.1.length ≤ 1000) (h2 : a.2.2.2.2.length ≤ 1000) : AC Try.prog 10 [infoL a, infoL b] (fun r m => r = .bool (decide (a = b)) ∧ m = []) := by
  obtain ⟨f1, l1, p1, I1, U1⟩ := a
  obtain ⟨f2, l2, p2, I2, U2⟩ := b
  have := same_walk f1 l1 f2 l2 p1 p2 I1 U1 I2 U2 h1 h2
  rw [show decide (f1 = f2 ∧ l1 = l2 ∧ p1 = p2 ∧ I1 = I2 ∧ U1 = U2) = decide ((f1, l1, p1, I1, U1) = (f2, l2, p2, I2, U2)) from decide_eq_decide.2 (by simp only [Prod.mk.injEq])] at this
  exact this
theorem sig_small : (allR.all fun r => decide ((sigS (byts r.2.2.2.2)).2.1.length ≤ 3 ∧ (sigS (byts r.2.2.2.2)).2.2.length ≤ 1)) = true := by decide +kernel
theorem of_small (op : Int) : (ofS op).1.2.2.2.1.length ≤ 3 ∧ (ofS op).1.2.2.2.2.length ≤ 1 := by
  unfold ofS
  cases h : findR op allR with
  | none => exact ⟨by decide, by decide⟩
  | some r => exact of_decide_eq_true (List.all_eq_true.1 sig_small r (findR_mem h).1)
end Go.Proofs.Ytmoalocogccnbaa
