/- The document's S. -/
import Derived.Test.YticidhkilfkgbaaV4
import Derived.Test.YticidhkilfkgbaaRead
import Derived.Test.YticidhkilfkgbaaVal
namespace Go.Proofs.Yticidhkilfkgbaa
set_option linter.unusedSimpArgs false
set_option linter.unusedVariables false
open Go Go.Abs
attribute [local irreducible] AW AWL AC DQ IntKind.wrap rSpec

/-- sixty-four bits: the row's, then its last -/
def ext64 (l : List Int) (i : Nat) : List Int := (l ++ List.replicate 64 (l.getD (l.length - 1) 0)).take i
theorem ext64_len (l : List Int) (i : Nat) (h : i ≤ 64) : (ext64 l i).length = i := by
  rw [ext64, List.length_take, List.length_append, List.length_replicate]; omega
theorem ext64_01 {l : List Int} (h : bits01 l) (i : Nat) : bits01 (ext64 l i) := by
  intro b hb
  have := List.mem_of_mem_take hb
  rcases List.mem_append.1 this with hm | hm
  · exact h b hm
  · rw [(List.mem_replicate.1 hm).2]
    by_cases hl : l.length - 1 < l.length
    · exact h _ (getD_mem hl)
    · left; have : l = [] := List.eq_nil_of_length_eq_zero (by omega); subst this; rfl
theorem ext64_in {l : List Int} {i : Nat} (hi : i < 64) (h : i < l.length) : ext64 l (i + 1) = ext64 l i ++ [l.getD i 0] := by
  rw [ext64, take_snoc _ _ (by rw [List.length_append, List.length_replicate]; omega), ext64]
  congr 2
  rw [List.getD_eq_getElem?_getD, List.getElem?_append_left h, ← List.getD_eq_getElem?_getD]
theorem ext64_out {l : List Int} {i : Nat} (hi : i < 64) (h : l.length ≤ i) : ext64 l (i + 1) = ext64 l i ++ [l.getD (l.length - 1) 0] := by
  rw [ext64, take_snoc _ _ (by rw [List.length_append, List.length_replicate]; omega), ext64]
  congr 2
  rw [List.getD_eq_getElem?_getD, List.getElem?_append_right h, List.getElem?_replicate, if_pos (by omega)]; rfl
def S14 (l : List Int) (to e n i : Int) : St :=
  { n := 54, slots := [(9, .ref 9 0 l.length 1), (10, .int .i64 to), (11, .int .i64 e), (12, .int .u64 n), (13, .int .i64 i)], mem := [(9, ⟨true, nums .i64 l⟩)] }
set_option maxRecDepth 4000 in
set_option maxHeartbeats 1000000 in
theorem rs_ok (xs : List Int) (hb : bytes xs) (hlen : xs.length ≤ 1000000000000000) (at_ bits : Int) :
    AC Try.prog 14 [.view xs.length 1 (nums .u8 xs), .int .i64 at_, .int .i64 bits] (fun r m => r = (if (rSpec true xs at_ bits).2.2 = 0 then .tup [.int .i64 (IntKind.i64.wrap (val (ext64 (rSpec true xs at_ bits).1 64))), .int .i64 (rSpec true xs at_ bits).2.1, .int .i64 0] else .tup [.int .i64 0, .int .i64 0, .int .i64 (rSpec true xs at_ bits).2.2]) ∧ m = []) := by
  have h01 := rSpec_01 true xs at_ bits
  have hln := (rSpec_len true xs at_ bits).1
  have hne := (rSpec_len true xs at_ bits).2
  refine AC.enter Try.func14 rfl (Nat.le_of_ble_eq_true rfl) ?_
  simp only [Try.f14]
  repeat' (first
    | refine AW.seq ?_
    | refine AW.block ?_
    | refine AW.region ?_
    | (refine AW.skip ?_; (try simp only [thenQ, blockQ, ↓reduceIte, Nat.reduceEqDiff]))
    | (refine AW.ret ?_; (try simp only [thenQ, blockQ, ↓reduceIte, Nat.reduceEqDiff]))
    | (refine AW.exit ?_; (try simp only [thenQ, blockQ, ↓reduceIte, Nat.reduceEqDiff]))
    | (refine AWL.nil ?_; (try simp only [thenQ, blockQ, ↓reduceIte, Nat.reduceEqDiff]))
    | (refine DQ.nil ?_; (try simp only [thenQ, blockQ, ↓reduceIte, Nat.reduceEqDiff]))
    | ((first
      | (refine AWL.op (sl := SL) rfl rfl ?_ ?_)
      | (refine DQ.op rfl rfl rfl rfl rfl ?_ ?_)
      | (refine DQ.yes rfl ?_ ?_)
      | (refine DQ.step rfl rfl rfl rfl (QStep.assign rfl) ?_)
      | (refine AWL.frzA rfl rfl ?_)
      | (refine AWL.callV (f := 20) rfl rfl rfl rfl ?_ (Nat.le_of_ble_eq_true rfl) rfl (read_ok xs hb hlen _ _ _) ?_; (focus kernel_rfl))
      | (refine AWL.call (f := 20) rfl rfl rfl ?_ rfl (Nat.le_of_ble_eq_true rfl) rfl (read_ok xs hb hlen _ _ _) ?_; (focus kernel_rfl))
      | (refine CWr.call (f := 20) rfl ?_ rfl (read_ok xs hb hlen _ _ _) (fun _ _ h => h) ?_ ?_ ?_; (focus kernel_rfl))
      | (refine DQ.step rfl rfl rfl rfl (QStep.call (f := 20) rfl ?_ rfl (read_ok xs hb hlen _ _ _) (fun _ _ h => h) (fun _ => rfl)) ?_; (focus kernel_rfl))
      | (refine DQ.yesC (QStep.call (f := 20) rfl ?_ rfl (read_ok xs hb hlen _ _ _) (fun _ _ h => h) (fun _ => rfl)) ?_; (focus kernel_rfl))
      | fail) <;> (first | ((first | show AWL _ _ _ _ _ | show DQ _ _ _ _ _ _ | show AW _ _ _ _ | (rintro _ _ ⟨rfl, rfl⟩; (try refine And.intro rfl ?_))); (try simp (disch := omega) only [NS, Nat.reduceBEq, Nat.reduceAdd, Nat.reduceMul, TY, slx, S14])) | (focus ((first | exact trivial | omega | exact ld_nums i3 _ _ (by first | assumption | omega | (simp only [List.length_append]; omega)) | exact ld_nums i5 _ _ (by first | assumption | omega | (simp only [List.length_append]; omega)) | exact ld_nums i24 _ _ (by first | assumption | omega | (simp only [List.length_append]; omega)) | (show _ ≤ _; omega) | (simp only [List.length_take, List.length_drop, List.length_append, List.length_cons, List.length_nil]; omega) | ((repeat' (first | exact trivial | exact rfl | exact Nat.le_of_ble_eq_true rfl | refine And.intro ?_ ?_ | fail)); done) | ((try simp (disch := omega) only [NS, Nat.reduceBEq, Nat.reduceAdd, Nat.reduceMul, TY, slx, S14]); (repeat' (first | exact trivial | exact rfl | exact ⟨_, _, rfl⟩ | exact ⟨_, rfl⟩ | exact Nat.le_of_ble_eq_true rfl | exact Nat.zero_lt_succ _ | omega | exact ld_lt (by omega) | exact ld_ex (by omega) | refine And.intro ?_ ?_ | fail)); done)); done))))
    | (refine AWL.guard2 rfl rfl rfl rfl rfl rfl ?_ ?_ <;> (intro hc; (try simp only [Bool.not_true, Bool.not_false] at hc); first | (cases hc; done) | ((try simp only [hc]); (try simp only [beq_iff_eq, bne_iff_ne, decide_eq_true_eq, decide_eq_false_iff_not, beq_eq_false_iff_ne, bne_eq_false_iff_eq, ne_eq, Bool.not_eq_true, Bool.not_eq_false, Bool.not_eq_eq_eq_not, Bool.not_true, Bool.not_false, Decidable.not_not, Int.not_lt, Int.not_le] at hc); (try (exfalso; omega)); (try (guard_hyp hc : True; clear hc)))))
    | (refine AWL.guard2 rfl rfl rfl rfl rfl rfl (fun hc => ?_) ?_; (cases hc; done))
    | (refine AW.drawn false hmix ?_ ?_; (focus kernel_rfl))
    | (refine AWL.guardU rfl rfl rfl rfl rfl rfl ?_; (try simp (disch := omega) only [NS, Nat.reduceBEq, Nat.reduceAdd, Nat.reduceMul, TY, slx, S14]))
    | (refine DQ.guardU rfl rfl rfl rfl rfl rfl rfl ?_; (try simp (disch := omega) only [NS, Nat.reduceBEq, Nat.reduceAdd, Nat.reduceMul, TY, slx, S14]))
    | refine DQ.tail rfl ?_
    | (refine DQ.guard2 rfl rfl rfl rfl rfl rfl rfl ?_ ?_ <;> (intro hc; (try simp only [Bool.not_true, Bool.not_false] at hc); first | (cases hc; done) | ((try simp only [hc]); (try simp only [beq_iff_eq, bne_iff_ne, decide_eq_true_eq, decide_eq_false_iff_not, beq_eq_false_iff_ne, bne_eq_false_iff_eq, ne_eq, Bool.not_eq_true, Bool.not_eq_false, Bool.not_eq_eq_eq_not, Bool.not_true, Bool.not_false, Decidable.not_not, Int.not_lt, Int.not_le] at hc); (try (exfalso; omega)); (try (guard_hyp hc : True; clear hc)))))
    | (refine AW.cond rfl (fun hc => ?_) (fun hc => ?_) <;> first | (cases hc; done) | ((try simp only [beq_iff_eq, bne_iff_ne, decide_eq_true_eq, decide_eq_false_iff_not, beq_eq_false_iff_ne, bne_eq_false_iff_eq, ne_eq, Bool.not_eq_true, Bool.not_eq_false, Bool.not_eq_eq_eq_not, Bool.not_true, Bool.not_false, Decidable.not_not, Int.not_lt, Int.not_le] at hc); (try (exfalso; omega)); (try (guard_hyp hc : True; clear hc))))
    | (refine EndQ.mk rfl rfl rfl ?_ ?_ ?_; (focus (first | exact Or.inl rfl | exact Or.inr rfl)); (focus ((first | exact trivial | omega | exact ld_nums i3 _ _ (by first | assumption | omega | (simp only [List.length_append]; omega)) | exact ld_nums i5 _ _ (by first | assumption | omega | (simp only [List.length_append]; omega)) | exact ld_nums i24 _ _ (by first | assumption | omega | (simp only [List.length_append]; omega)) | (show _ ≤ _; omega) | (simp only [List.length_take, List.length_drop, List.length_append, List.length_cons, List.length_nil]; omega) | ((repeat' (first | exact trivial | exact rfl | exact Nat.le_of_ble_eq_true rfl | refine And.intro ?_ ?_ | fail)); done) | ((try simp (disch := omega) only [NS, Nat.reduceBEq, Nat.reduceAdd, Nat.reduceMul, TY, slx, S14]); (repeat' (first | exact trivial | exact rfl | exact ⟨_, _, rfl⟩ | exact ⟨_, rfl⟩ | exact Nat.le_of_ble_eq_true rfl | exact Nat.zero_lt_succ _ | omega | exact ld_lt (by omega) | exact ld_ex (by omega) | refine And.intro ?_ ?_ | fail)); done)); done)); (try simp (disch := omega) only [NS, Nat.reduceBEq, Nat.reduceAdd, Nat.reduceMul, TY, slx, S14]))
    | fail)
  · rw [if_neg (by assumption)]; exact ⟨rfl, trivial⟩
  generalize rSpec true xs at_ bits = q at *
  obtain ⟨l, to, e⟩ := q
  simp only at h01 hln hne ⊢
  rw [if_pos (by assumption)]
  have hl1 : 1 ≤ l.length := List.length_pos_iff.2 (hne (by assumption))
  refine AW.loop [9, 10, 11, 12, 13] [9] (fun w st => ∃ i : Nat, st = S14 l to e (val (ext64 l i)) i ∧ i ≤ 64 ∧ w = 64 - i) ?_ ?_
  · exact ⟨_, 0, rfl, by omega, rfl⟩
  · rintro w st ⟨i, rfl, h64, rfl⟩
    have e1 : IntKind.u64.wrap (i : Int) = i := wrap_in rfl (by omega) (by show _ < (18446744073709551616 : Int); omega)
    have hOw : ∀ j, j < l.length → (nums .i64 l).getD j .any = .int .i64 (l.getD j 0) := fun j h => own_getD h
    have eL : IntKind.i64.wrap ((l.length : Int) - 1) = ((l.length - 1 : Nat) : Int) := by rw [wrap64_id _ (by omega) (by omega)]; omega
    have e2 : ∀ j, j < l.length → IntKind.u64.wrap (l.getD j 0) = l.getD j 0 := fun j h => by
      have := h01 _ (getD_mem h)
      exact wrap_in rfl (by omega) (by show _ < (18446744073709551616 : Int); omega)
    repeat' (first
      | refine AW.seq ?_
      | refine AW.block ?_
      | refine AW.region ?_
      | (refine AW.skip ?_; (try simp only [thenQ, blockQ, ↓reduceIte, Nat.reduceEqDiff]))
      | (refine AW.ret ?_; (try simp only [thenQ, blockQ, ↓reduceIte, Nat.reduceEqDiff]))
      | (refine AW.exit ?_; (try simp only [thenQ, blockQ, ↓reduceIte, Nat.reduceEqDiff]))
      | (refine AWL.nil ?_; (try simp only [thenQ, blockQ, ↓reduceIte, Nat.reduceEqDiff]))
      | (refine DQ.nil ?_; (try simp only [thenQ, blockQ, ↓reduceIte, Nat.reduceEqDiff]))
      | ((first
        | (refine AWL.op (sl := SL) rfl rfl ?_ ?_)
        | (refine DQ.op rfl rfl rfl rfl rfl ?_ ?_)
        | (refine DQ.yes rfl ?_ ?_)
        | (refine DQ.step rfl rfl rfl rfl (QStep.assign rfl) ?_)
        | (refine AWL.frzA rfl rfl ?_)
        | (refine AWL.callV (f := 20) rfl rfl rfl rfl ?_ (Nat.le_of_ble_eq_true rfl) rfl (read_ok xs hb hlen _ _ _) ?_; (focus kernel_rfl))
        | (refine AWL.call (f := 20) rfl rfl rfl ?_ rfl (Nat.le_of_ble_eq_true rfl) rfl (read_ok xs hb hlen _ _ _) ?_; (focus kernel_rfl))
        | (refine CWr.call (f := 20) rfl ?_ rfl (read_ok xs hb hlen _ _ _) (fun _ _ h => h) ?_ ?_ ?_; (focus kernel_rfl))
        | (refine DQ.step rfl rfl rfl rfl (QStep.call (f := 20) rfl ?_ rfl (read_ok xs hb hlen _ _ _) (fun _ _ h => h) (fun _ => rfl)) ?_; (focus kernel_rfl))
        | (refine DQ.yesC (QStep.call (f := 20) rfl ?_ rfl (read_ok xs hb hlen _ _ _) (fun _ _ h => h) (fun _ => rfl)) ?_; (focus kernel_rfl))
        | fail) <;> (first | ((first | show AWL _ _ _ _ _ | show DQ _ _ _ _ _ _ | show AW _ _ _ _ | (rintro _ _ ⟨rfl, rfl⟩; (try refine And.intro rfl ?_))); (try simp (disch := omega) only [NS, Nat.reduceBEq, Nat.reduceAdd, Nat.reduceMul, TY, slx, S14, e1, e2, hOw, eL, Int.toNat_natCast])) | (focus ((first | exact trivial | omega | exact ld_nums i3 _ _ (by first | assumption | omega | (simp only [List.length_append]; omega)) | exact ld_nums i5 _ _ (by first | assumption | omega | (simp only [List.length_append]; omega)) | exact ld_nums i24 _ _ (by first | assumption | omega | (simp only [List.length_append]; omega)) | (show _ ≤ _; omega) | (simp only [List.length_take, List.length_drop, List.length_append, List.length_cons, List.length_nil]; omega) | ((repeat' (first | exact trivial | exact rfl | exact Nat.le_of_ble_eq_true rfl | refine And.intro ?_ ?_ | fail)); done) | ((try simp (disch := omega) only [NS, Nat.reduceBEq, Nat.reduceAdd, Nat.reduceMul, TY, slx, S14, e1, e2, hOw, eL, Int.toNat_natCast]); (repeat' (first | exact trivial | exact rfl | exact ⟨_, _, rfl⟩ | exact ⟨_, rfl⟩ | exact Nat.le_of_ble_eq_true rfl | exact Nat.zero_lt_succ _ | omega | exact ld_lt (by omega) | exact ld_ex (by omega) | refine And.intro ?_ ?_ | fail)); done)); done))))
      | (refine AWL.guard2 rfl rfl rfl rfl rfl rfl ?_ ?_ <;> (intro hc; (try simp only [Bool.not_true, Bool.not_false] at hc); first | (cases hc; done) | ((try simp only [hc]); (try simp only [beq_iff_eq, bne_iff_ne, decide_eq_true_eq, decide_eq_false_iff_not, beq_eq_false_iff_ne, bne_eq_false_iff_eq, ne_eq, Bool.not_eq_true, Bool.not_eq_false, Bool.not_eq_eq_eq_not, Bool.not_true, Bool.not_false, Decidable.not_not, Int.not_lt, Int.not_le] at hc); (try (exfalso; omega)); (try (guard_hyp hc : True; clear hc)))))
      | (refine AWL.guard2 rfl rfl rfl rfl rfl rfl (fun hc => ?_) ?_; (cases hc; done))
      | (refine AW.drawn false hmix ?_ ?_; (focus kernel_rfl))
      | (refine AWL.guardU rfl rfl rfl rfl rfl rfl ?_; (try simp (disch := omega) only [NS, Nat.reduceBEq, Nat.reduceAdd, Nat.reduceMul, TY, slx, S14, e1, e2, hOw, eL, Int.toNat_natCast]))
      | (refine DQ.guardU rfl rfl rfl rfl rfl rfl rfl ?_; (try simp (disch := omega) only [NS, Nat.reduceBEq, Nat.reduceAdd, Nat.reduceMul, TY, slx, S14, e1, e2, hOw, eL, Int.toNat_natCast]))
      | refine DQ.tail rfl ?_
      | (refine DQ.guard2 rfl rfl rfl rfl rfl rfl rfl ?_ ?_ <;> (intro hc; (try simp only [Bool.not_true, Bool.not_false] at hc); first | (cases hc; done) | ((try simp only [hc]); (try simp only [beq_iff_eq, bne_iff_ne, decide_eq_true_eq, decide_eq_false_iff_not, beq_eq_false_iff_ne, bne_eq_false_iff_eq, ne_eq, Bool.not_eq_true, Bool.not_eq_false, Bool.not_eq_eq_eq_not, Bool.not_true, Bool.not_false, Decidable.not_not, Int.not_lt, Int.not_le] at hc); (try (exfalso; omega)); (try (guard_hyp hc : True; clear hc)))))
      | (refine AW.cond rfl (fun hc => ?_) (fun hc => ?_) <;> first | (cases hc; done) | ((try simp only [beq_iff_eq, bne_iff_ne, decide_eq_true_eq, decide_eq_false_iff_not, beq_eq_false_iff_ne, bne_eq_false_iff_eq, ne_eq, Bool.not_eq_true, Bool.not_eq_false, Bool.not_eq_eq_eq_not, Bool.not_true, Bool.not_false, Decidable.not_not, Int.not_lt, Int.not_le] at hc); (try (exfalso; omega)); (try (guard_hyp hc : True; clear hc))))
      | (refine EndQ.mk rfl rfl rfl ?_ ?_ ?_; (focus (first | exact Or.inl rfl | exact Or.inr rfl)); (focus ((first | exact trivial | omega | exact ld_nums i3 _ _ (by first | assumption | omega | (simp only [List.length_append]; omega)) | exact ld_nums i5 _ _ (by first | assumption | omega | (simp only [List.length_append]; omega)) | exact ld_nums i24 _ _ (by first | assumption | omega | (simp only [List.length_append]; omega)) | (show _ ≤ _; omega) | (simp only [List.length_take, List.length_drop, List.length_append, List.length_cons, List.length_nil]; omega) | ((repeat' (first | exact trivial | exact rfl | exact Nat.le_of_ble_eq_true rfl | refine And.intro ?_ ?_ | fail)); done) | ((try simp (disch := omega) only [NS, Nat.reduceBEq, Nat.reduceAdd, Nat.reduceMul, TY, slx, S14, e1, e2, hOw, eL, Int.toNat_natCast]); (repeat' (first | exact trivial | exact rfl | exact ⟨_, _, rfl⟩ | exact ⟨_, rfl⟩ | exact Nat.le_of_ble_eq_true rfl | exact Nat.zero_lt_succ _ | omega | exact ld_lt (by omega) | exact ld_ex (by omega) | refine And.intro ?_ ?_ | fail)); done)); done)); (try simp (disch := omega) only [NS, Nat.reduceBEq, Nat.reduceAdd, Nat.reduceMul, TY, slx, S14, e1, e2, hOw, eL, Int.toNat_natCast]))
      | fail)
    all_goals try simp (disch := omega) only [NS, Nat.reduceBEq, Nat.reduceAdd, Nat.reduceMul, TY, slx, S14, e1, e2, hOw, eL, Int.toNat_natCast]
    · have hst := val_step (i := i) (b := l.getD i 0) (ext64_01 h01 i) (ext64_len l i h64) (by omega) (h01 _ (getD_mem (by omega)))
      refine ⟨64 - (i + 1), by omega, i + 1, ?_, by omega, rfl⟩
      rw [hst, wrap64_id _ (by omega) (by omega), ← ext64_in (by omega) (by omega)]; rfl
    · have hst := val_step (i := i) (b := l.getD (l.length - 1) 0) (ext64_01 h01 i) (ext64_len l i h64) (by omega) (h01 _ (getD_mem (by omega)))
      refine ⟨64 - (i + 1), by omega, i + 1, ?_, by omega, rfl⟩
      rw [hst, wrap64_id _ (by omega) (by omega), ← ext64_out (by omega) (by omega)]; rfl
    · have hi64 : i = 64 := by omega
      rw [hi64]; exact ⟨rfl, trivial⟩
end Go.Proofs.Yticidhkilfkgbaa
