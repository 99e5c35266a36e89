/- types. -/
import Derived.Test.YtmoalocogccnbaaV5
import Derived.Test.YtmoalocogccnbaaPre
namespace Go.Proofs.Ytmoalocogccnbaa
set_option linter.unusedSimpArgs false
set_option linter.unusedVariables false
open Go Go.Abs
attribute [local irreducible] AW AWL AC FW CW CWr IntKind.wrap

def typ1 (c : UInt8) : List Int := if (c.toNat : Int) = 105 then [127] else if (c.toNat : Int) = 108 then [126] else if (c.toNat : Int) = 118 then [123] else []
def typT (s : List UInt8) : Nat → List Int
  | 0 => []
  | i + 1 => typT s i ++ typ1 (s.getD i 0)
def typesS (s : List UInt8) : List Int := typT s s.length
theorem typT_len (s : List UInt8) (i : Nat) : (typT s i).length ≤ i := by
  induction i with
  | zero => exact Nat.le_refl _
  | succ i ih =>
    rw [typT, List.length_append]
    have : (typ1 (s.getD i 0)).length ≤ 1 := by unfold typ1; split <;> (try split) <;> (try split) <;> simp
    omega
def Y4 (s : List UInt8) (L : List Int) (i : Int) : St := { n := 33, slots := [(0, .str s), (2, .ref 2 0 0 1), (3, .ref 3 0 L.length 1), (4, .int .i64 i)], mem := [(3, ⟨true, nums .i64 L⟩)] }
set_option maxHeartbeats 3200000 in
theorem types_ok (s : List UInt8) (hs : s.length ≤ 1000) : AC Try.prog 22 [.str s] (fun r m => r = .ref 2 0 (typesS s).length 1 ∧ m = [(2, nums .i64 (typesS s))]) := by
  refine AC.enter Try.func22 rfl (Nat.le_of_ble_eq_true rfl) ?_
  simp only [Try.f22]
  have hchk : True := by simp only [TY, List.set_cons_zero, List.set_cons_succ, sl27, sl25, sl36, sl3, sl4, sl5, sl9, nums_length, byts_V, byts_len, Y4]
  repeat' (first
    | (refine AWL.opN (sl := SL) rfl rfl rfl trivial ?_; (try (conv => arg -1; simp (disch := omega) only [NSX, Nat.reduceBEq, Nat.reduceAdd, Nat.reduceMul, Int.reduceToNat, Nat.reduceSub, TY, List.set_cons_zero, List.set_cons_succ, sl27, sl25, sl36, sl3, sl4, sl5, sl9, nums_length, byts_V, byts_len, Y4])))
    | (refine AW.seqQ ?_; intro Qn hQn)
    | (refine AW.blockQ ?_; intro Qn hQn)
    | refine AW.region ?_
    | ((first | refine AW.skip ?_ | refine AW.ret ?_ | refine AW.exit ?_ | refine AWL.nil ?_ | refine CW.nil ?_); (repeat (first | refine QEq.mp (by assumption) ?_ | simp only [thenQ, Go.Abs.blockQ, ↓reduceIte, Nat.reduceEqDiff])))
    | refine FW.nil ?_
    | refine FW.pass rfl rfl ?_
    | refine FW.go rfl ?_
    | refine CW.skip rfl rfl ?_
    | refine CW.step rfl rfl rfl rfl rfl ?_
    | ((first
      | (refine AWL.boxF (t := 36) rfl rfl rfl rfl rfl ?_)
      | (refine AWL.allocF (t := 36) rfl rfl rfl rfl rfl rfl ?_)
      | (refine CWr.allocF (t := 36) rfl rfl rfl ?_ ?_)
      | (refine AWL.op (sl := SL) rfl rfl ?_ ?_)
      | (refine FW.float rfl rfl rfl rfl rfl ?_)
      | (refine CWr.op rfl ?_ ?_ ?_)
      | (refine CWr.assign rfl ?_ ?_)
      | (refine CWr.alloc rfl rfl rfl rfl ?_)
      | (refine CWr.build rfl rfl rfl rfl ?_ rfl rfl rfl ?_)
      | fail) <;> (try ((first | show AWL _ _ _ _ _ | show AW _ _ _ _ | show FW _ _ _ _ _ _ _ _ _ _ | show CW _ _ _ _ _ _ _ _ _ _ _ _ | (rintro _ _ ⟨rfl, rfl⟩; (try refine And.intro rfl ?_))); (try (conv => arg -1; simp (disch := omega) only [NSX, Nat.reduceBEq, Nat.reduceAdd, Nat.reduceMul, Int.reduceToNat, Nat.reduceSub, TY, List.set_cons_zero, List.set_cons_succ, sl27, sl25, sl36, sl3, sl4, sl5, sl9, nums_length, byts_V, byts_len, Y4])))))
    | ((first | refine AWL.guard2 rfl rfl rfl rfl rfl rfl ?_ ?_ | refine CW.guard2 rfl rfl rfl rfl rfl rfl rfl rfl ?_ ?_) <;> (intro hc; (try simp only [Bool.not_true, Bool.not_false] at hc); first | (cases hc; done) | ((try simp only [hc]); (try simp only [beq_iff_eq, bne_iff_ne, decide_eq_true_eq, decide_eq_false_iff_not, beq_eq_false_iff_ne, bne_eq_false_iff_eq, ne_eq, Bool.not_eq_true, Bool.not_eq_false, Bool.not_eq_eq_eq_not, Bool.not_true, Bool.not_false, Decidable.not_not, Int.not_lt, Int.not_le] at hc); (try (exfalso; omega)); (try (guard_hyp hc : True; clear hc)))) <;> (try (first | (with_reducible show AWL _ _ _ _ (St.put _ _ _)) | (with_reducible show CW _ _ _ _ _ _ _ _ _ _ _ (St.put _ _ _))); (try (conv => arg -1; simp (disch := omega) only [NSX, Nat.reduceBEq, Nat.reduceAdd, Nat.reduceMul, Int.reduceToNat, Nat.reduceSub, TY, List.set_cons_zero, List.set_cons_succ, sl27, sl25, sl36, sl3, sl4, sl5, sl9, nums_length, byts_V, byts_len, Y4]))))
    | (refine AWL.guard2 rfl rfl rfl rfl rfl rfl (fun hc => ?_) ?_; (cases hc; done))
    | ((first | ((show AW _ (.region _ _ true) _ _); refine AW.calm false [] [] hmix (by (repeat' (first | exact panOk_end | exact panOk_endM | refine panOk_then ?_ | refine panOk_block ?_ | refine QEq.pan (by assumption) ?_))) ?_ rfl ?_; (focus (as_aux_lemma => kernel_rfl))) | refine AWL.guardU rfl rfl rfl rfl rfl rfl ?_ | refine CW.guardU rfl rfl rfl rfl rfl rfl rfl rfl ?_); (try (conv => arg -1; simp (disch := omega) only [NSX, Nat.reduceBEq, Nat.reduceAdd, Nat.reduceMul, Int.reduceToNat, Nat.reduceSub, TY, List.set_cons_zero, List.set_cons_succ, sl27, sl25, sl36, sl3, sl4, sl5, sl9, nums_length, byts_V, byts_len, Y4])))
    | refine CW.tail rfl ?_
    | (refine AW.cond rfl (fun hc => ?_) (fun hc => ?_) <;> first | (cases hc; done) | ((try simp only [beq_iff_eq, bne_iff_ne, decide_eq_true_eq, decide_eq_false_iff_not, beq_eq_false_iff_ne, bne_eq_false_iff_eq, ne_eq, Bool.not_eq_true, Bool.not_eq_false, Bool.not_eq_eq_eq_not, Bool.not_true, Bool.not_false, Decidable.not_not, Int.not_lt, Int.not_le] at hc); (try (exfalso; omega)); (try (guard_hyp hc : True; clear hc))))
    | ((refine EndQ.mk rfl rfl rfl ?_ ?_ ?_; (focus (first | exact Or.inl rfl | exact Or.inr rfl))) <;> (try simp (disch := omega) only [NSX, Nat.reduceBEq, Nat.reduceAdd, Nat.reduceMul, Int.reduceToNat, Nat.reduceSub, TY, List.set_cons_zero, List.set_cons_succ, sl27, sl25, sl36, sl3, sl4, sl5, sl9, nums_length, byts_V, byts_len, Y4]))
    | (focus ((first | exact trivial | omega | (refine And.intro (by kernel_rfl) (And.intro ⟨_, (by first | exact nums_ints _ _ | rfl), (by first | exact nums_ints _ _ | rfl)⟩ (And.intro ?_ ?_)) <;> (first | rfl | assumption | (simp only [nums_length]; omega) | omega)) | (refine And.intro ?_ (And.intro ?_ ?_); (focus kernel_rfl); (focus kernel_rfl); (focus kernel_rfl)) | ((show newKs _ _ _ = true); kernel_rfl) | ((show FitV _ _ _ _ _ _); (repeat' (first | exact trivial | exact Or.inr (Or.inl rfl) | exact Or.inl rfl | exact Or.inr (Or.inr rfl) | refine And.intro ?_ ?_)); done) | assumption | ((first | refine ld_nums i3 _ _ ?_ | refine ld_nums i5 _ _ ?_ | refine at_nums i3 _ _ ?_ | refine at_nums i5 _ _ ?_); first | assumption | omega | (simp only [List.length_append]; omega)) | (show _ ≤ _; omega) | (simp only [List.length_take, List.length_drop, List.length_append, List.length_cons, List.length_nil]; omega) | ((repeat' (first | exact trivial | exact rfl | exact Nat.le_of_ble_eq_true rfl | refine And.intro ?_ ?_ | fail)); done) | ((try simp (disch := omega) only [NSX, Nat.reduceBEq, Nat.reduceAdd, Nat.reduceMul, Int.reduceToNat, Nat.reduceSub, TY, List.set_cons_zero, List.set_cons_succ, sl27, sl25, sl36, sl3, sl4, sl5, sl9, nums_length, byts_V, byts_len, Y4]); (repeat' (first | exact trivial | exact rfl | exact ⟨_, _, rfl⟩ | exact ⟨_, rfl⟩ | exact Nat.le_of_ble_eq_true rfl | exact Nat.zero_lt_succ _ | omega | (simp only [nums_length, byts_len] at *; omega) | refine And.intro ?_ ?_ | fail)); done)); done))
    | fail)
  refine AW.loop [0, 2, 3, 4] [3] (fun m st => ∃ (i : Nat), st = Y4 s (typT s i) i ∧ i ≤ s.length ∧ m = s.length - i) ?_ ?_
  · exact ⟨_, 0, rfl, Nat.zero_le _, rfl⟩
  rintro m st ⟨i, rfl, hi, rfl⟩
  have e5 : IntKind.i64.wrap ((i : Int) + 1) = ((i + 1 : Nat) : Int) := wrap64_id _ (by omega) (by omega)
  have hl := typT_len s i
  by_cases hin : i < s.length
  · have hn : typT s (i + 1) = typT s i ++ typ1 (s.getD i 0) := rfl
    unfold typ1 at hn
    by_cases h1 : ((s.getD i 0).toNat : Int) = 105
    · rw [if_pos h1] at hn
      have hchk : True := by simp only [TY, List.set_cons_zero, List.set_cons_succ, sl27, sl25, sl36, sl3, sl4, sl5, sl9, nums_length, byts_V, byts_len, Y4, e5, h1]
      repeat' (first
        | (refine AWL.opN (sl := SL) rfl rfl rfl trivial ?_; (try (conv => arg -1; simp (disch := omega) only [NSX, Nat.reduceBEq, Nat.reduceAdd, Nat.reduceMul, Int.reduceToNat, Nat.reduceSub, TY, List.set_cons_zero, List.set_cons_succ, sl27, sl25, sl36, sl3, sl4, sl5, sl9, nums_length, byts_V, byts_len, Y4, e5, h1])))
        | (refine AW.seqQ ?_; intro Qn hQn)
        | (refine AW.blockQ ?_; intro Qn hQn)
        | refine AW.region ?_
        | ((first | refine AW.skip ?_ | refine AW.ret ?_ | refine AW.exit ?_ | refine AWL.nil ?_ | refine CW.nil ?_); (repeat (first | refine QEq.mp (by assumption) ?_ | simp only [thenQ, Go.Abs.blockQ, ↓reduceIte, Nat.reduceEqDiff])))
        | refine FW.nil ?_
        | refine FW.pass rfl rfl ?_
        | refine FW.go rfl ?_
        | refine CW.skip rfl rfl ?_
        | refine CW.step rfl rfl rfl rfl rfl ?_
        | ((first
          | (refine AWL.boxF (t := 36) rfl rfl rfl rfl rfl ?_)
          | (refine AWL.allocF (t := 36) rfl rfl rfl rfl rfl rfl ?_)
          | (refine CWr.allocF (t := 36) rfl rfl rfl ?_ ?_)
          | (refine AWL.op (sl := SL) rfl rfl ?_ ?_)
          | (refine FW.float rfl rfl rfl rfl rfl ?_)
          | (refine CWr.op rfl ?_ ?_ ?_)
          | (refine CWr.assign rfl ?_ ?_)
          | (refine CWr.alloc rfl rfl rfl rfl ?_)
          | (refine CWr.build rfl rfl rfl rfl ?_ rfl rfl rfl ?_)
          | fail) <;> (try ((first | show AWL _ _ _ _ _ | show AW _ _ _ _ | show FW _ _ _ _ _ _ _ _ _ _ | show CW _ _ _ _ _ _ _ _ _ _ _ _ | (rintro _ _ ⟨rfl, rfl⟩; (try refine And.intro rfl ?_))); (try (conv => arg -1; simp (disch := omega) only [NSX, Nat.reduceBEq, Nat.reduceAdd, Nat.reduceMul, Int.reduceToNat, Nat.reduceSub, TY, List.set_cons_zero, List.set_cons_succ, sl27, sl25, sl36, sl3, sl4, sl5, sl9, nums_length, byts_V, byts_len, Y4, e5, h1])))))
        | ((first | refine AWL.guard2 rfl rfl rfl rfl rfl rfl ?_ ?_ | refine CW.guard2 rfl rfl rfl rfl rfl rfl rfl rfl ?_ ?_) <;> (intro hc; (try simp only [Bool.not_true, Bool.not_false] at hc); first | (cases hc; done) | ((try simp only [hc]); (try simp only [beq_iff_eq, bne_iff_ne, decide_eq_true_eq, decide_eq_false_iff_not, beq_eq_false_iff_ne, bne_eq_false_iff_eq, ne_eq, Bool.not_eq_true, Bool.not_eq_false, Bool.not_eq_eq_eq_not, Bool.not_true, Bool.not_false, Decidable.not_not, Int.not_lt, Int.not_le] at hc); (try (exfalso; omega)); (try (guard_hyp hc : True; clear hc)))) <;> (try (first | (with_reducible show AWL _ _ _ _ (St.put _ _ _)) | (with_reducible show CW _ _ _ _ _ _ _ _ _ _ _ (St.put _ _ _))); (try (conv => arg -1; simp (disch := omega) only [NSX, Nat.reduceBEq, Nat.reduceAdd, Nat.reduceMul, Int.reduceToNat, Nat.reduceSub, TY, List.set_cons_zero, List.set_cons_succ, sl27, sl25, sl36, sl3, sl4, sl5, sl9, nums_length, byts_V, byts_len, Y4, e5, h1]))))
        | (refine AWL.guard2 rfl rfl rfl rfl rfl rfl (fun hc => ?_) ?_; (cases hc; done))
        | ((first | ((show AW _ (.region _ _ true) _ _); refine AW.calm false [] [] hmix (by (repeat' (first | exact panOk_end | exact panOk_endM | refine panOk_then ?_ | refine panOk_block ?_ | refine QEq.pan (by assumption) ?_))) ?_ rfl ?_; (focus (as_aux_lemma => kernel_rfl))) | refine AWL.guardU rfl rfl rfl rfl rfl rfl ?_ | refine CW.guardU rfl rfl rfl rfl rfl rfl rfl rfl ?_); (try (conv => arg -1; simp (disch := omega) only [NSX, Nat.reduceBEq, Nat.reduceAdd, Nat.reduceMul, Int.reduceToNat, Nat.reduceSub, TY, List.set_cons_zero, List.set_cons_succ, sl27, sl25, sl36, sl3, sl4, sl5, sl9, nums_length, byts_V, byts_len, Y4, e5, h1])))
        | refine CW.tail rfl ?_
        | (refine AW.cond rfl (fun hc => ?_) (fun hc => ?_) <;> first | (cases hc; done) | ((try simp only [beq_iff_eq, bne_iff_ne, decide_eq_true_eq, decide_eq_false_iff_not, beq_eq_false_iff_ne, bne_eq_false_iff_eq, ne_eq, Bool.not_eq_true, Bool.not_eq_false, Bool.not_eq_eq_eq_not, Bool.not_true, Bool.not_false, Decidable.not_not, Int.not_lt, Int.not_le] at hc); (try (exfalso; omega)); (try (guard_hyp hc : True; clear hc))))
        | ((refine EndQ.mk rfl rfl rfl ?_ ?_ ?_; (focus (first | exact Or.inl rfl | exact Or.inr rfl))) <;> (try simp (disch := omega) only [NSX, Nat.reduceBEq, Nat.reduceAdd, Nat.reduceMul, Int.reduceToNat, Nat.reduceSub, TY, List.set_cons_zero, List.set_cons_succ, sl27, sl25, sl36, sl3, sl4, sl5, sl9, nums_length, byts_V, byts_len, Y4, e5, h1]))
        | (focus ((first | exact trivial | omega | (refine And.intro (by kernel_rfl) (And.intro ⟨_, (by first | exact nums_ints _ _ | rfl), (by first | exact nums_ints _ _ | rfl)⟩ (And.intro ?_ ?_)) <;> (first | rfl | assumption | (simp only [nums_length]; omega) | omega)) | (refine And.intro ?_ (And.intro ?_ ?_); (focus kernel_rfl); (focus kernel_rfl); (focus kernel_rfl)) | ((show newKs _ _ _ = true); kernel_rfl) | ((show FitV _ _ _ _ _ _); (repeat' (first | exact trivial | exact Or.inr (Or.inl rfl) | exact Or.inl rfl | exact Or.inr (Or.inr rfl) | refine And.intro ?_ ?_)); done) | assumption | ((first | refine ld_nums i3 _ _ ?_ | refine ld_nums i5 _ _ ?_ | refine at_nums i3 _ _ ?_ | refine at_nums i5 _ _ ?_); first | assumption | omega | (simp only [List.length_append]; omega)) | (show _ ≤ _; omega) | (simp only [List.length_take, List.length_drop, List.length_append, List.length_cons, List.length_nil]; omega) | ((repeat' (first | exact trivial | exact rfl | exact Nat.le_of_ble_eq_true rfl | refine And.intro ?_ ?_ | fail)); done) | ((try simp (disch := omega) only [NSX, Nat.reduceBEq, Nat.reduceAdd, Nat.reduceMul, Int.reduceToNat, Nat.reduceSub, TY, List.set_cons_zero, List.set_cons_succ, sl27, sl25, sl36, sl3, sl4, sl5, sl9, nums_length, byts_V, byts_len, Y4, e5, h1]); (repeat' (first | exact trivial | exact rfl | exact ⟨_, _, rfl⟩ | exact ⟨_, rfl⟩ | exact Nat.le_of_ble_eq_true rfl | exact Nat.zero_lt_succ _ | omega | (simp only [nums_length, byts_len] at *; omega) | refine And.intro ?_ ?_ | fail)); done)); done))
        | fail)
      all_goals try simp (disch := omega) only [NSX, Nat.reduceBEq, Nat.reduceAdd, Nat.reduceMul, Int.reduceToNat, Nat.reduceSub, TY, List.set_cons_zero, List.set_cons_succ, sl27, sl25, sl36, sl3, sl4, sl5, sl9, nums_length, byts_V, byts_len, Y4, e5]
      all_goals first
        | exact ⟨s.length - (i + 1), by omega, i + 1, by rw [hn, List.length_append, List.length_singleton], by omega, rfl⟩
        | (exfalso; omega) | trace_state
    · by_cases h2 : ((s.getD i 0).toNat : Int) = 108
      · rw [if_neg h1, if_pos h2] at hn
        have hchk : True := by simp only [TY, List.set_cons_zero, List.set_cons_succ, sl27, sl25, sl36, sl3, sl4, sl5, sl9, nums_length, byts_V, byts_len, Y4, e5, h2]
        repeat' (first
          | (refine AWL.opN (sl := SL) rfl rfl rfl trivial ?_; (try (conv => arg -1; simp (disch := omega) only [NSX, Nat.reduceBEq, Nat.reduceAdd, Nat.reduceMul, Int.reduceToNat, Nat.reduceSub, TY, List.set_cons_zero, List.set_cons_succ, sl27, sl25, sl36, sl3, sl4, sl5, sl9, nums_length, byts_V, byts_len, Y4, e5, h2])))
          | (refine AW.seqQ ?_; intro Qn hQn)
          | (refine AW.blockQ ?_; intro Qn hQn)
          | refine AW.region ?_
          | ((first | refine AW.skip ?_ | refine AW.ret ?_ | refine AW.exit ?_ | refine AWL.nil ?_ | refine CW.nil ?_); (repeat (first | refine QEq.mp (by assumption) ?_ | simp only [thenQ, Go.Abs.blockQ, ↓reduceIte, Nat.reduceEqDiff])))
          | refine FW.nil ?_
          | refine FW.pass rfl rfl ?_
          | refine FW.go rfl ?_
          | refine CW.skip rfl rfl ?_
          | refine CW.step rfl rfl rfl rfl rfl ?_
          | ((first
            | (refine AWL.boxF (t := 36) rfl rfl rfl rfl rfl ?_)
            | (refine AWL.allocF (t := 36) rfl rfl rfl rfl rfl rfl ?_)
            | (refine CWr.allocF (t := 36) rfl rfl rfl ?_ ?_)
            | (refine AWL.op (sl := SL) rfl rfl ?_ ?_)
            | (refine FW.float rfl rfl rfl rfl rfl ?_)
            | (refine CWr.op rfl ?_ ?_ ?_)
            | (refine CWr.assign rfl ?_ ?_)
            | (refine CWr.alloc rfl rfl rfl rfl ?_)
            | (refine CWr.build rfl rfl rfl rfl ?_ rfl rfl rfl ?_)
            | fail) <;> (try ((first | show AWL _ _ _ _ _ | show AW _ _ _ _ | show FW _ _ _ _ _ _ _ _ _ _ | show CW _ _ _ _ _ _ _ _ _ _ _ _ | (rintro _ _ ⟨rfl, rfl⟩; (try refine And.intro rfl ?_))); (try (conv => arg -1; simp (disch := omega) only [NSX, Nat.reduceBEq, Nat.reduceAdd, Nat.reduceMul, Int.reduceToNat, Nat.reduceSub, TY, List.set_cons_zero, List.set_cons_succ, sl27, sl25, sl36, sl3, sl4, sl5, sl9, nums_length, byts_V, byts_len, Y4, e5, h2])))))
          | ((first | refine AWL.guard2 rfl rfl rfl rfl rfl rfl ?_ ?_ | refine CW.guard2 rfl rfl rfl rfl rfl rfl rfl rfl ?_ ?_) <;> (intro hc; (try simp only [Bool.not_true, Bool.not_false] at hc); first | (cases hc; done) | ((try simp only [hc]); (try simp only [beq_iff_eq, bne_iff_ne, decide_eq_true_eq, decide_eq_false_iff_not, beq_eq_false_iff_ne, bne_eq_false_iff_eq, ne_eq, Bool.not_eq_true, Bool.not_eq_false, Bool.not_eq_eq_eq_not, Bool.not_true, Bool.not_false, Decidable.not_not, Int.not_lt, Int.not_le] at hc); (try (exfalso; omega)); (try (guard_hyp hc : True; clear hc)))) <;> (try (first | (with_reducible show AWL _ _ _ _ (St.put _ _ _)) | (with_reducible show CW _ _ _ _ _ _ _ _ _ _ _ (St.put _ _ _))); (try (conv => arg -1; simp (disch := omega) only [NSX, Nat.reduceBEq, Nat.reduceAdd, Nat.reduceMul, Int.reduceToNat, Nat.reduceSub, TY, List.set_cons_zero, List.set_cons_succ, sl27, sl25, sl36, sl3, sl4, sl5, sl9, nums_length, byts_V, byts_len, Y4, e5, h2]))))
          | (refine AWL.guard2 rfl rfl rfl rfl rfl rfl (fun hc => ?_) ?_; (cases hc; done))
          | ((first | ((show AW _ (.region _ _ true) _ _); refine AW.calm false [] [] hmix (by (repeat' (first | exact panOk_end | exact panOk_endM | refine panOk_then ?_ | refine panOk_block ?_ | refine QEq.pan (by assumption) ?_))) ?_ rfl ?_; (focus (as_aux_lemma => kernel_rfl))) | refine AWL.guardU rfl rfl rfl rfl rfl rfl ?_ | refine CW.guardU rfl rfl rfl rfl rfl rfl rfl rfl ?_); (try (conv => arg -1; simp (disch := omega) only [NSX, Nat.reduceBEq, Nat.reduceAdd, Nat.reduceMul, Int.reduceToNat, Nat.reduceSub, TY, List.set_cons_zero, List.set_cons_succ, sl27, sl25, sl36, sl3, sl4, sl5, sl9, nums_length, byts_V, byts_len, Y4, e5, h2])))
          | refine CW.tail rfl ?_
          | (refine AW.cond rfl (fun hc => ?_) (fun hc => ?_) <;> first | (cases hc; done) | ((try simp only [beq_iff_eq, bne_iff_ne, decide_eq_true_eq, decide_eq_false_iff_not, beq_eq_false_iff_ne, bne_eq_false_iff_eq, ne_eq, Bool.not_eq_true, Bool.not_eq_false, Bool.not_eq_eq_eq_not, Bool.not_true, Bool.not_false, Decidable.not_not, Int.not_lt, Int.not_le] at hc); (try (exfalso; omega)); (try (guard_hyp hc : True; clear hc))))
          | ((refine EndQ.mk rfl rfl rfl ?_ ?_ ?_; (focus (first | exact Or.inl rfl | exact Or.inr rfl))) <;> (try simp (disch := omega) only [NSX, Nat.reduceBEq, Nat.reduceAdd, Nat.reduceMul, Int.reduceToNat, Nat.reduceSub, TY, List.set_cons_zero, List.set_cons_succ, sl27, sl25, sl36, sl3, sl4, sl5, sl9, nums_length, byts_V, byts_len, Y4, e5, h2]))
          | (focus ((first | exact trivial | omega | (refine And.intro (by kernel_rfl) (And.intro ⟨_, (by first | exact nums_ints _ _ | rfl), (by first | exact nums_ints _ _ | rfl)⟩ (And.intro ?_ ?_)) <;> (first | rfl | assumption | (simp only [nums_length]; omega) | omega)) | (refine And.intro ?_ (And.intro ?_ ?_); (focus kernel_rfl); (focus kernel_rfl); (focus kernel_rfl)) | ((show newKs _ _ _ = true); kernel_rfl) | ((show FitV _ _ _ _ _ _); (repeat' (first | exact trivial | exact Or.inr (Or.inl rfl) | exact Or.inl rfl | exact Or.inr (Or.inr rfl) | refine And.intro ?_ ?_)); done) | assumption | ((first | refine ld_nums i3 _ _ ?_ | refine ld_nums i5 _ _ ?_ | refine at_nums i3 _ _ ?_ | refine at_nums i5 _ _ ?_); first | assumption | omega | (simp only [List.length_append]; omega)) | (show _ ≤ _; omega) | (simp only [List.length_take, List.length_drop, List.length_append, List.length_cons, List.length_nil]; omega) | ((repeat' (first | exact trivial | exact rfl | exact Nat.le_of_ble_eq_true rfl | refine And.intro ?_ ?_ | fail)); done) | ((try simp (disch := omega) only [NSX, Nat.reduceBEq, Nat.reduceAdd, Nat.reduceMul, Int.reduceToNat, Nat.reduceSub, TY, List.set_cons_zero, List.set_cons_succ, sl27, sl25, sl36, sl3, sl4, sl5, sl9, nums_length, byts_V, byts_len, Y4, e5, h2]); (repeat' (first | exact trivial | exact rfl | exact ⟨_, _, rfl⟩ | exact ⟨_, rfl⟩ | exact Nat.le_of_ble_eq_true rfl | exact Nat.zero_lt_succ _ | omega | (simp only [nums_length, byts_len] at *; omega) | refine And.intro ?_ ?_ | fail)); done)); done))
          | fail)
        all_goals try simp (disch := omega) only [NSX, Nat.reduceBEq, Nat.reduceAdd, Nat.reduceMul, Int.reduceToNat, Nat.reduceSub, TY, List.set_cons_zero, List.set_cons_succ, sl27, sl25, sl36, sl3, sl4, sl5, sl9, nums_length, byts_V, byts_len, Y4, e5]
        all_goals first
          | exact ⟨s.length - (i + 1), by omega, i + 1, by rw [hn, List.length_append, List.length_singleton], by omega, rfl⟩
          | (exfalso; omega) | trace_state
      · by_cases h3 : ((s.getD i 0).toNat : Int) = 118
        · rw [if_neg h1, if_neg h2, if_pos h3] at hn
          have hchk : True := by simp only [TY, List.set_cons_zero, List.set_cons_succ, sl27, sl25, sl36, sl3, sl4, sl5, sl9, nums_length, byts_V, byts_len, Y4, e5, h3]
          repeat' (first
            | (refine AWL.opN (sl := SL) rfl rfl rfl trivial ?_; (try (conv => arg -1; simp (disch := omega) only [NSX, Nat.reduceBEq, Nat.reduceAdd, Nat.reduceMul, Int.reduceToNat, Nat.reduceSub, TY, List.set_cons_zero, List.set_cons_succ, sl27, sl25, sl36, sl3, sl4, sl5, sl9, nums_length, byts_V, byts_len, Y4, e5, h3])))
            | (refine AW.seqQ ?_; intro Qn hQn)
            | (refine AW.blockQ ?_; intro Qn hQn)
            | refine AW.region ?_
            | ((first | refine AW.skip ?_ | refine AW.ret ?_ | refine AW.exit ?_ | refine AWL.nil ?_ | refine CW.nil ?_); (repeat (first | refine QEq.mp (by assumption) ?_ | simp only [thenQ, Go.Abs.blockQ, ↓reduceIte, Nat.reduceEqDiff])))
            | refine FW.nil ?_
            | refine FW.pass rfl rfl ?_
            | refine FW.go rfl ?_
            | refine CW.skip rfl rfl ?_
            | refine CW.step rfl rfl rfl rfl rfl ?_
            | ((first
              | (refine AWL.boxF (t := 36) rfl rfl rfl rfl rfl ?_)
              | (refine AWL.allocF (t := 36) rfl rfl rfl rfl rfl rfl ?_)
              | (refine CWr.allocF (t := 36) rfl rfl rfl ?_ ?_)
              | (refine AWL.op (sl := SL) rfl rfl ?_ ?_)
              | (refine FW.float rfl rfl rfl rfl rfl ?_)
              | (refine CWr.op rfl ?_ ?_ ?_)
              | (refine CWr.assign rfl ?_ ?_)
              | (refine CWr.alloc rfl rfl rfl rfl ?_)
              | (refine CWr.build rfl rfl rfl rfl ?_ rfl rfl rfl ?_)
              | fail) <;> (try ((first | show AWL _ _ _ _ _ | show AW _ _ _ _ | show FW _ _ _ _ _ _ _ _ _ _ | show CW _ _ _ _ _ _ _ _ _ _ _ _ | (rintro _ _ ⟨rfl, rfl⟩; (try refine And.intro rfl ?_))); (try (conv => arg -1; simp (disch := omega) only [NSX, Nat.reduceBEq, Nat.reduceAdd, Nat.reduceMul, Int.reduceToNat, Nat.reduceSub, TY, List.set_cons_zero, List.set_cons_succ, sl27, sl25, sl36, sl3, sl4, sl5, sl9, nums_length, byts_V, byts_len, Y4, e5, h3])))))
            | ((first | refine AWL.guard2 rfl rfl rfl rfl rfl rfl ?_ ?_ | refine CW.guard2 rfl rfl rfl rfl rfl rfl rfl rfl ?_ ?_) <;> (intro hc; (try simp only [Bool.not_true, Bool.not_false] at hc); first | (cases hc; done) | ((try simp only [hc]); (try simp only [beq_iff_eq, bne_iff_ne, decide_eq_true_eq, decide_eq_false_iff_not, beq_eq_false_iff_ne, bne_eq_false_iff_eq, ne_eq, Bool.not_eq_true, Bool.not_eq_false, Bool.not_eq_eq_eq_not, Bool.not_true, Bool.not_false, Decidable.not_not, Int.not_lt, Int.not_le] at hc); (try (exfalso; omega)); (try (guard_hyp hc : True; clear hc)))) <;> (try (first | (with_reducible show AWL _ _ _ _ (St.put _ _ _)) | (with_reducible show CW _ _ _ _ _ _ _ _ _ _ _ (St.put _ _ _))); (try (conv => arg -1; simp (disch := omega) only [NSX, Nat.reduceBEq, Nat.reduceAdd, Nat.reduceMul, Int.reduceToNat, Nat.reduceSub, TY, List.set_cons_zero, List.set_cons_succ, sl27, sl25, sl36, sl3, sl4, sl5, sl9, nums_length, byts_V, byts_len, Y4, e5, h3]))))
            | (refine AWL.guard2 rfl rfl rfl rfl rfl rfl (fun hc => ?_) ?_; (cases hc; done))
            | ((first | ((show AW _ (.region _ _ true) _ _); refine AW.calm false [] [] hmix (by (repeat' (first | exact panOk_end | exact panOk_endM | refine panOk_then ?_ | refine panOk_block ?_ | refine QEq.pan (by assumption) ?_))) ?_ rfl ?_; (focus (as_aux_lemma => kernel_rfl))) | refine AWL.guardU rfl rfl rfl rfl rfl rfl ?_ | refine CW.guardU rfl rfl rfl rfl rfl rfl rfl rfl ?_); (try (conv => arg -1; simp (disch := omega) only [NSX, Nat.reduceBEq, Nat.reduceAdd, Nat.reduceMul, Int.reduceToNat, Nat.reduceSub, TY, List.set_cons_zero, List.set_cons_succ, sl27, sl25, sl36, sl3, sl4, sl5, sl9, nums_length, byts_V, byts_len, Y4, e5, h3])))
            | refine CW.tail rfl ?_
            | (refine AW.cond rfl (fun hc => ?_) (fun hc => ?_) <;> first | (cases hc; done) | ((try simp only [beq_iff_eq, bne_iff_ne, decide_eq_true_eq, decide_eq_false_iff_not, beq_eq_false_iff_ne, bne_eq_false_iff_eq, ne_eq, Bool.not_eq_true, Bool.not_eq_false, Bool.not_eq_eq_eq_not, Bool.not_true, Bool.not_false, Decidable.not_not, Int.not_lt, Int.not_le] at hc); (try (exfalso; omega)); (try (guard_hyp hc : True; clear hc))))
            | ((refine EndQ.mk rfl rfl rfl ?_ ?_ ?_; (focus (first | exact Or.inl rfl | exact Or.inr rfl))) <;> (try simp (disch := omega) only [NSX, Nat.reduceBEq, Nat.reduceAdd, Nat.reduceMul, Int.reduceToNat, Nat.reduceSub, TY, List.set_cons_zero, List.set_cons_succ, sl27, sl25, sl36, sl3, sl4, sl5, sl9, nums_length, byts_V, byts_len, Y4, e5, h3]))
            | (focus ((first | exact trivial | omega | (refine And.intro (by kernel_rfl) (And.intro ⟨_, (by first | exact nums_ints _ _ | rfl), (by first | exact nums_ints _ _ | rfl)⟩ (And.intro ?_ ?_)) <;> (first | rfl | assumption | (simp only [nums_length]; omega) | omega)) | (refine And.intro ?_ (And.intro ?_ ?_); (focus kernel_rfl); (focus kernel_rfl); (focus kernel_rfl)) | ((show newKs _ _ _ = true); kernel_rfl) | ((show FitV _ _ _ _ _ _); (repeat' (first | exact trivial | exact Or.inr (Or.inl rfl) | exact Or.inl rfl | exact Or.inr (Or.inr rfl) | refine And.intro ?_ ?_)); done) | assumption | ((first | refine ld_nums i3 _ _ ?_ | refine ld_nums i5 _ _ ?_ | refine at_nums i3 _ _ ?_ | refine at_nums i5 _ _ ?_); first | assumption | omega | (simp only [List.length_append]; omega)) | (show _ ≤ _; omega) | (simp only [List.length_take, List.length_drop, List.length_append, List.length_cons, List.length_nil]; omega) | ((repeat' (first | exact trivial | exact rfl | exact Nat.le_of_ble_eq_true rfl | refine And.intro ?_ ?_ | fail)); done) | ((try simp (disch := omega) only [NSX, Nat.reduceBEq, Nat.reduceAdd, Nat.reduceMul, Int.reduceToNat, Nat.reduceSub, TY, List.set_cons_zero, List.set_cons_succ, sl27, sl25, sl36, sl3, sl4, sl5, sl9, nums_length, byts_V, byts_len, Y4, e5, h3]); (repeat' (first | exact trivial | exact rfl | exact ⟨_, _, rfl⟩ | exact ⟨_, rfl⟩ | exact Nat.le_of_ble_eq_true rfl | exact Nat.zero_lt_succ _ | omega | (simp only [nums_length, byts_len] at *; omega) | refine And.intro ?_ ?_ | fail)); done)); done))
            | fail)
          all_goals try simp (disch := omega) only [NSX, Nat.reduceBEq, Nat.reduceAdd, Nat.reduceMul, Int.reduceToNat, Nat.reduceSub, TY, List.set_cons_zero, List.set_cons_succ, sl27, sl25, sl36, sl3, sl4, sl5, sl9, nums_length, byts_V, byts_len, Y4, e5]
          all_goals first
            | exact ⟨s.length - (i + 1), by omega, i + 1, by rw [hn, List.length_append, List.length_singleton], by omega, rfl⟩
            | (exfalso; omega) | trace_state
        · rw [if_neg h1, if_neg h2, if_neg h3, List.append_nil] at hn
          have hchk : True := by simp only [TY, List.set_cons_zero, List.set_cons_succ, sl27, sl25, sl36, sl3, sl4, sl5, sl9, nums_length, byts_V, byts_len, Y4, e5]
          repeat' (first
            | (refine AWL.opN (sl := SL) rfl rfl rfl trivial ?_; (try (conv => arg -1; simp (disch := omega) only [NSX, Nat.reduceBEq, Nat.reduceAdd, Nat.reduceMul, Int.reduceToNat, Nat.reduceSub, TY, List.set_cons_zero, List.set_cons_succ, sl27, sl25, sl36, sl3, sl4, sl5, sl9, nums_length, byts_V, byts_len, Y4, e5])))
            | (refine AW.seqQ ?_; intro Qn hQn)
            | (refine AW.blockQ ?_; intro Qn hQn)
            | refine AW.region ?_
            | ((first | refine AW.skip ?_ | refine AW.ret ?_ | refine AW.exit ?_ | refine AWL.nil ?_ | refine CW.nil ?_); (repeat (first | refine QEq.mp (by assumption) ?_ | simp only [thenQ, Go.Abs.blockQ, ↓reduceIte, Nat.reduceEqDiff])))
            | refine FW.nil ?_
            | refine FW.pass rfl rfl ?_
            | refine FW.go rfl ?_
            | refine CW.skip rfl rfl ?_
            | refine CW.step rfl rfl rfl rfl rfl ?_
            | ((first
              | (refine AWL.boxF (t := 36) rfl rfl rfl rfl rfl ?_)
              | (refine AWL.allocF (t := 36) rfl rfl rfl rfl rfl rfl ?_)
              | (refine CWr.allocF (t := 36) rfl rfl rfl ?_ ?_)
              | (refine AWL.op (sl := SL) rfl rfl ?_ ?_)
              | (refine FW.float rfl rfl rfl rfl rfl ?_)
              | (refine CWr.op rfl ?_ ?_ ?_)
              | (refine CWr.assign rfl ?_ ?_)
              | (refine CWr.alloc rfl rfl rfl rfl ?_)
              | (refine CWr.build rfl rfl rfl rfl ?_ rfl rfl rfl ?_)
              | fail) <;> (try ((first | show AWL _ _ _ _ _ | show AW _ _ _ _ | show FW _ _ _ _ _ _ _ _ _ _ | show CW _ _ _ _ _ _ _ _ _ _ _ _ | (rintro _ _ ⟨rfl, rfl⟩; (try refine And.intro rfl ?_))); (try (conv => arg -1; simp (disch := omega) only [NSX, Nat.reduceBEq, Nat.reduceAdd, Nat.reduceMul, Int.reduceToNat, Nat.reduceSub, TY, List.set_cons_zero, List.set_cons_succ, sl27, sl25, sl36, sl3, sl4, sl5, sl9, nums_length, byts_V, byts_len, Y4, e5])))))
            | ((first | refine AWL.guard2 rfl rfl rfl rfl rfl rfl ?_ ?_ | refine CW.guard2 rfl rfl rfl rfl rfl rfl rfl rfl ?_ ?_) <;> (intro hc; (try simp only [Bool.not_true, Bool.not_false] at hc); first | (cases hc; done) | ((try simp only [hc]); (try simp only [beq_iff_eq, bne_iff_ne, decide_eq_true_eq, decide_eq_false_iff_not, beq_eq_false_iff_ne, bne_eq_false_iff_eq, ne_eq, Bool.not_eq_true, Bool.not_eq_false, Bool.not_eq_eq_eq_not, Bool.not_true, Bool.not_false, Decidable.not_not, Int.not_lt, Int.not_le] at hc); (try (exfalso; omega)); (try (guard_hyp hc : True; clear hc)))) <;> (try (first | (with_reducible show AWL _ _ _ _ (St.put _ _ _)) | (with_reducible show CW _ _ _ _ _ _ _ _ _ _ _ (St.put _ _ _))); (try (conv => arg -1; simp (disch := omega) only [NSX, Nat.reduceBEq, Nat.reduceAdd, Nat.reduceMul, Int.reduceToNat, Nat.reduceSub, TY, List.set_cons_zero, List.set_cons_succ, sl27, sl25, sl36, sl3, sl4, sl5, sl9, nums_length, byts_V, byts_len, Y4, e5]))))
            | (refine AWL.guard2 rfl rfl rfl rfl rfl rfl (fun hc => ?_) ?_; (cases hc; done))
            | ((first | ((show AW _ (.region _ _ true) _ _); refine AW.calm false [] [] hmix (by (repeat' (first | exact panOk_end | exact panOk_endM | refine panOk_then ?_ | refine panOk_block ?_ | refine QEq.pan (by assumption) ?_))) ?_ rfl ?_; (focus (as_aux_lemma => kernel_rfl))) | refine AWL.guardU rfl rfl rfl rfl rfl rfl ?_ | refine CW.guardU rfl rfl rfl rfl rfl rfl rfl rfl ?_); (try (conv => arg -1; simp (disch := omega) only [NSX, Nat.reduceBEq, Nat.reduceAdd, Nat.reduceMul, Int.reduceToNat, Nat.reduceSub, TY, List.set_cons_zero, List.set_cons_succ, sl27, sl25, sl36, sl3, sl4, sl5, sl9, nums_length, byts_V, byts_len, Y4, e5])))
            | refine CW.tail rfl ?_
            | (refine AW.cond rfl (fun hc => ?_) (fun hc => ?_) <;> first | (cases hc; done) | ((try simp only [beq_iff_eq, bne_iff_ne, decide_eq_true_eq, decide_eq_false_iff_not, beq_eq_false_iff_ne, bne_eq_false_iff_eq, ne_eq, Bool.not_eq_true, Bool.not_eq_false, Bool.not_eq_eq_eq_not, Bool.not_true, Bool.not_false, Decidable.not_not, Int.not_lt, Int.not_le] at hc); (try (exfalso; omega)); (try (guard_hyp hc : True; clear hc))))
            | ((refine EndQ.mk rfl rfl rfl ?_ ?_ ?_; (focus (first | exact Or.inl rfl | exact Or.inr rfl))) <;> (try simp (disch := omega) only [NSX, Nat.reduceBEq, Nat.reduceAdd, Nat.reduceMul, Int.reduceToNat, Nat.reduceSub, TY, List.set_cons_zero, List.set_cons_succ, sl27, sl25, sl36, sl3, sl4, sl5, sl9, nums_length, byts_V, byts_len, Y4, e5]))
            | (focus ((first | exact trivial | omega | (refine And.intro (by kernel_rfl) (And.intro ⟨_, (by first | exact nums_ints _ _ | rfl), (by first | exact nums_ints _ _ | rfl)⟩ (And.intro ?_ ?_)) <;> (first | rfl | assumption | (simp only [nums_length]; omega) | omega)) | (refine And.intro ?_ (And.intro ?_ ?_); (focus kernel_rfl); (focus kernel_rfl); (focus kernel_rfl)) | ((show newKs _ _ _ = true); kernel_rfl) | ((show FitV _ _ _ _ _ _); (repeat' (first | exact trivial | exact Or.inr (Or.inl rfl) | exact Or.inl rfl | exact Or.inr (Or.inr rfl) | refine And.intro ?_ ?_)); done) | assumption | ((first | refine ld_nums i3 _ _ ?_ | refine ld_nums i5 _ _ ?_ | refine at_nums i3 _ _ ?_ | refine at_nums i5 _ _ ?_); first | assumption | omega | (simp only [List.length_append]; omega)) | (show _ ≤ _; omega) | (simp only [List.length_take, List.length_drop, List.length_append, List.length_cons, List.length_nil]; omega) | ((repeat' (first | exact trivial | exact rfl | exact Nat.le_of_ble_eq_true rfl | refine And.intro ?_ ?_ | fail)); done) | ((try simp (disch := omega) only [NSX, Nat.reduceBEq, Nat.reduceAdd, Nat.reduceMul, Int.reduceToNat, Nat.reduceSub, TY, List.set_cons_zero, List.set_cons_succ, sl27, sl25, sl36, sl3, sl4, sl5, sl9, nums_length, byts_V, byts_len, Y4, e5]); (repeat' (first | exact trivial | exact rfl | exact ⟨_, _, rfl⟩ | exact ⟨_, rfl⟩ | exact Nat.le_of_ble_eq_true rfl | exact Nat.zero_lt_succ _ | omega | (simp only [nums_length, byts_len] at *; omega) | refine And.intro ?_ ?_ | fail)); done)); done))
            | fail)
          all_goals try simp (disch := omega) only [NSX, Nat.reduceBEq, Nat.reduceAdd, Nat.reduceMul, Int.reduceToNat, Nat.reduceSub, TY, List.set_cons_zero, List.set_cons_succ, sl27, sl25, sl36, sl3, sl4, sl5, sl9, nums_length, byts_V, byts_len, Y4, e5]
          all_goals first
            | exact ⟨s.length - (i + 1), by omega, i + 1, by first | (rw [hn]; done) | (rw [hn]; rfl), by omega, rfl⟩
            | (exfalso; omega) | trace_state
  · obtain rfl : i = s.length := by omega
    have hchk : True := by simp only [TY, List.set_cons_zero, List.set_cons_succ, sl27, sl25, sl36, sl3, sl4, sl5, sl9, nums_length, byts_V, byts_len, Y4]
    repeat' (first
      | (refine AWL.opN (sl := SL) rfl rfl rfl trivial ?_; (try (conv => arg -1; simp (disch := omega) only [NSX, Nat.reduceBEq, Nat.reduceAdd, Nat.reduceMul, Int.reduceToNat, Nat.reduceSub, TY, List.set_cons_zero, List.set_cons_succ, sl27, sl25, sl36, sl3, sl4, sl5, sl9, nums_length, byts_V, byts_len, Y4])))
      | (refine AW.seqQ ?_; intro Qn hQn)
      | (refine AW.blockQ ?_; intro Qn hQn)
      | refine AW.region ?_
      | ((first | refine AW.skip ?_ | refine AW.ret ?_ | refine AW.exit ?_ | refine AWL.nil ?_ | refine CW.nil ?_); (repeat (first | refine QEq.mp (by assumption) ?_ | simp only [thenQ, Go.Abs.blockQ, ↓reduceIte, Nat.reduceEqDiff])))
      | refine FW.nil ?_
      | refine FW.pass rfl rfl ?_
      | refine FW.go rfl ?_
      | refine CW.skip rfl rfl ?_
      | refine CW.step rfl rfl rfl rfl rfl ?_
      | ((first
        | (refine AWL.boxF (t := 36) rfl rfl rfl rfl rfl ?_)
        | (refine AWL.allocF (t := 36) rfl rfl rfl rfl rfl rfl ?_)
        | (refine CWr.allocF (t := 36) rfl rfl rfl ?_ ?_)
        | (refine AWL.op (sl := SL) rfl rfl ?_ ?_)
        | (refine FW.float rfl rfl rfl rfl rfl ?_)
        | (refine CWr.op rfl ?_ ?_ ?_)
        | (refine CWr.assign rfl ?_ ?_)
        | (refine CWr.alloc rfl rfl rfl rfl ?_)
        | (refine CWr.build rfl rfl rfl rfl ?_ rfl rfl rfl ?_)
        | fail) <;> (try ((first | show AWL _ _ _ _ _ | show AW _ _ _ _ | show FW _ _ _ _ _ _ _ _ _ _ | show CW _ _ _ _ _ _ _ _ _ _ _ _ | (rintro _ _ ⟨rfl, rfl⟩; (try refine And.intro rfl ?_))); (try (conv => arg -1; simp (disch := omega) only [NSX, Nat.reduceBEq, Nat.reduceAdd, Nat.reduceMul, Int.reduceToNat, Nat.reduceSub, TY, List.set_cons_zero, List.set_cons_succ, sl27, sl25, sl36, sl3, sl4, sl5, sl9, nums_length, byts_V, byts_len, Y4])))))
      | ((first | refine AWL.guard2 rfl rfl rfl rfl rfl rfl ?_ ?_ | refine CW.guard2 rfl rfl rfl rfl rfl rfl rfl rfl ?_ ?_) <;> (intro hc; (try simp only [Bool.not_true, Bool.not_false] at hc); first | (cases hc; done) | ((try simp only [hc]); (try simp only [beq_iff_eq, bne_iff_ne, decide_eq_true_eq, decide_eq_false_iff_not, beq_eq_false_iff_ne, bne_eq_false_iff_eq, ne_eq, Bool.not_eq_true, Bool.not_eq_false, Bool.not_eq_eq_eq_not, Bool.not_true, Bool.not_false, Decidable.not_not, Int.not_lt, Int.not_le] at hc); (try (exfalso; omega)); (try (guard_hyp hc : True; clear hc)))) <;> (try (first | (with_reducible show AWL _ _ _ _ (St.put _ _ _)) | (with_reducible show CW _ _ _ _ _ _ _ _ _ _ _ (St.put _ _ _))); (try (conv => arg -1; simp (disch := omega) only [NSX, Nat.reduceBEq, Nat.reduceAdd, Nat.reduceMul, Int.reduceToNat, Nat.reduceSub, TY, List.set_cons_zero, List.set_cons_succ, sl27, sl25, sl36, sl3, sl4, sl5, sl9, nums_length, byts_V, byts_len, Y4]))))
      | (refine AWL.guard2 rfl rfl rfl rfl rfl rfl (fun hc => ?_) ?_; (cases hc; done))
      | ((first | ((show AW _ (.region _ _ true) _ _); refine AW.calm false [] [] hmix (by (repeat' (first | exact panOk_end | exact panOk_endM | refine panOk_then ?_ | refine panOk_block ?_ | refine QEq.pan (by assumption) ?_))) ?_ rfl ?_; (focus (as_aux_lemma => kernel_rfl))) | refine AWL.guardU rfl rfl rfl rfl rfl rfl ?_ | refine CW.guardU rfl rfl rfl rfl rfl rfl rfl rfl ?_); (try (conv => arg -1; simp (disch := omega) only [NSX, Nat.reduceBEq, Nat.reduceAdd, Nat.reduceMul, Int.reduceToNat, Nat.reduceSub, TY, List.set_cons_zero, List.set_cons_succ, sl27, sl25, sl36, sl3, sl4, sl5, sl9, nums_length, byts_V, byts_len, Y4])))
      | refine CW.tail rfl ?_
      | (refine AW.cond rfl (fun hc => ?_) (fun hc => ?_) <;> first | (cases hc; done) | ((try simp only [beq_iff_eq, bne_iff_ne, decide_eq_true_eq, decide_eq_false_iff_not, beq_eq_false_iff_ne, bne_eq_false_iff_eq, ne_eq, Bool.not_eq_true, Bool.not_eq_false, Bool.not_eq_eq_eq_not, Bool.not_true, Bool.not_false, Decidable.not_not, Int.not_lt, Int.not_le] at hc); (try (exfalso; omega)); (try (guard_hyp hc : True; clear hc))))
      | ((refine EndQ.mk rfl rfl rfl ?_ ?_ ?_; (focus (first | exact Or.inl rfl | exact Or.inr rfl))) <;> (try simp (disch := omega) only [NSX, Nat.reduceBEq, Nat.reduceAdd, Nat.reduceMul, Int.reduceToNat, Nat.reduceSub, TY, List.set_cons_zero, List.set_cons_succ, sl27, sl25, sl36, sl3, sl4, sl5, sl9, nums_length, byts_V, byts_len, Y4]))
      | (focus ((first | exact trivial | omega | (refine And.intro (by kernel_rfl) (And.intro ⟨_, (by first | exact nums_ints _ _ | rfl), (by first | exact nums_ints _ _ | rfl)⟩ (And.intro ?_ ?_)) <;> (first | rfl | assumption | (simp only [nums_length]; omega) | omega)) | (refine And.intro ?_ (And.intro ?_ ?_); (focus kernel_rfl); (focus kernel_rfl); (focus kernel_rfl)) | ((show newKs _ _ _ = true); kernel_rfl) | ((show FitV _ _ _ _ _ _); (repeat' (first | exact trivial | exact Or.inr (Or.inl rfl) | exact Or.inl rfl | exact Or.inr (Or.inr rfl) | refine And.intro ?_ ?_)); done) | assumption | ((first | refine ld_nums i3 _ _ ?_ | refine ld_nums i5 _ _ ?_ | refine at_nums i3 _ _ ?_ | refine at_nums i5 _ _ ?_); first | assumption | omega | (simp only [List.length_append]; omega)) | (show _ ≤ _; omega) | (simp only [List.length_take, List.length_drop, List.length_append, List.length_cons, List.length_nil]; omega) | ((repeat' (first | exact trivial | exact rfl | exact Nat.le_of_ble_eq_true rfl | refine And.intro ?_ ?_ | fail)); done) | ((try simp (disch := omega) only [NSX, Nat.reduceBEq, Nat.reduceAdd, Nat.reduceMul, Int.reduceToNat, Nat.reduceSub, TY, List.set_cons_zero, List.set_cons_succ, sl27, sl25, sl36, sl3, sl4, sl5, sl9, nums_length, byts_V, byts_len, Y4]); (repeat' (first | exact trivial | exact rfl | exact ⟨_, _, rfl⟩ | exact ⟨_, rfl⟩ | exact Nat.le_of_ble_eq_true rfl | exact Nat.zero_lt_succ _ | omega | (simp only [nums_length, byts_len] at *; omega) | refine And.intro ?_ ?_ | fail)); done)); done))
      | fail)
    all_goals first | exact ⟨trivial, trivial⟩ | exact ⟨rfl, trivial⟩ | exact ⟨rfl, rfl⟩ | exact ⟨trivial, rfl⟩ | (exfalso; omega) | trace_state
end Go.Proofs.Ytmoalocogccnbaa
