/- LebBack. -/
import Derived.Test.YticidhkilfkgbaaV4
import Derived.Test.YticidhkilfkgbaaAwake
import Derived.Test.YticidhkilfkgbaaBack
namespace Go.Proofs.Yticidhkilfkgbaa
set_option linter.unusedSimpArgs false
set_option linter.unusedVariables false
open Go Go.Abs
attribute [local irreducible] AW AWL AC DQ IntKind.wrap

theorem lenU_iff (b n : Nat) : lenU n ≤ ((b + 1 : Nat) : Int) ↔ n < 2 ^ (b + 1) := by
  induction b generalizing n with
  | zero =>
    rw [lenU]; split
    · simp; omega
    · have := lenU_le n (n / 2) (Nat.lt_of_le_of_lt (Nat.div_le_self _ _) (Nat.lt_of_lt_of_le Nat.lt_two_pow_self (Nat.pow_le_pow_right (by decide) (by omega))))
      simp; omega
  | succ b ih =>
    rw [lenU]; split
    · have : 2 ^ 1 ≤ 2 ^ (b + 1 + 1) := Nat.pow_le_pow_right (by decide) (by omega)
      simp at this ⊢; omega
    · have := ih (n / 2)
      rw [Nat.pow_succ]
      constructor
      · intro h; have := this.1 (by omega); omega
      · intro h; have := this.2 (by omega); omega
theorem pu_one (n : Nat) (hn : n < 2 ^ 64) : AC Try.prog 15 [.view 1 1 (nums .u64 [(n : Int)])] (fun r m => r = .ref 2 0 (putU n).length 1 ∧ m = [(2, nums .u8 (putU n))]) := by
  have := pu_ok [(n : Int)] (by intro x hx; rw [List.mem_singleton] at hx; subst hx; exact ⟨by omega, by omega⟩) (by simp)
  have e : putUs [(n : Int)] = putU n := by simp [putUs]
  rw [e] at this; exact this
set_option maxRecDepth 4000 in
set_option maxHeartbeats 800000 in
theorem lebBack_ok (n : Nat) (hn : n < 2 ^ 64) (bs : List Int) (hb : bytes bs) (hx : bs.length ≤ 1048576) (bits : Int) :
    AC Try.prog 5 [.int .u64 n, .view bs.length 1 (nums .u8 bs), .int .i64 bits] (fun r m => r = .bool true ∧ m = []) := by
  have hby : bytes ((bs ++ putU n) ++ bs) := bytes_append (bytes_append hb (putU_bytes n)) hb
  have hln := putU_len 9 n (by simpa using Nat.lt_of_lt_of_le hn (by decide))
  have hT : (bs ++ putU n ++ bs).take (bs.length + (putU n).length + bs.length) = bs ++ putU n ++ bs := List.take_of_length_le (by simp only [List.length_append]; omega)
  have hU : uSpec (bs ++ putU n ++ bs) bs.length bits = if bits < 1 ∨ bits > 64 then (0, 0, 1) else if bits < lenU n then (0, 0, 6) else ((n : Int), ((bs.length + (putU n).length : Nat) : Int), 0) := by
    by_cases h : bits < 1 ∨ bits > 64
    · rw [uSpec, if_pos (by omega), if_pos h]
    · rw [uSpec, if_neg (by simp only [List.length_append]; omega), if_neg h, Int.toNat_natCast, List.append_assoc, List.drop_left]
      have hr := uRd_put bits bs n 0 0 bs.length (by omega)
      rw [show 7 * 0 = 0 from rfl] at hr
      rw [hr]
      obtain ⟨b, rfl⟩ : ∃ b : Nat, bits = ((b + 1 : Nat) : Int) := ⟨(bits - 1).toNat, by omega⟩
      have hi := lenU_iff b n
      rw [show ((((b + 1 : Nat) : Int)) - 7 * ((0 : Nat) : Int)).toNat = b + 1 from by omega]
      by_cases hl : ((b + 1 : Nat) : Int) < lenU n
      · rw [if_pos hl, if_neg (fun h3 => by have := hi.2 h3; omega)]
      · rw [if_neg hl, if_pos (hi.1 (by omega))]; simp
  have hlen := lenU_le 63 n hn
  have hcall := u_at (bs.length + (putU n).length + bs.length) (bs ++ putU n ++ bs) (by rw [List.length_append, List.length_append]) hby (by rw [List.length_append, List.length_append]; omega) bs.length bits
  rw [hU] at hcall
  by_cases h : bits < 1 ∨ bits > 64
  · rw [if_pos h] at hcall
    refine AC.enter Try.func5 rfl (Nat.le_of_ble_eq_true rfl) ?_
    simp only [Try.f5]
    repeat' (first
      | refine AW.seq ?_
      | refine AW.block ?_
      | refine AW.region ?_
      | (refine AW.skip ?_; (try simp only [thenQ, blockQ, ↓reduceIte, Nat.reduceEqDiff]))
      | (refine AW.ret ?_; (try simp only [thenQ, blockQ, ↓reduceIte, Nat.reduceEqDiff]))
      | (refine AW.exit ?_; (try simp only [thenQ, blockQ, ↓reduceIte, Nat.reduceEqDiff]))
      | (refine AWL.nil ?_; (try simp only [thenQ, blockQ, ↓reduceIte, Nat.reduceEqDiff]))
      | (refine DQ.nil ?_; (try simp only [thenQ, blockQ, ↓reduceIte, Nat.reduceEqDiff]))
      | ((first
        | (refine AWL.op (sl := SL) rfl rfl ?_ ?_)
        | (refine DQ.op rfl rfl rfl rfl rfl ?_ ?_)
        | (refine DQ.yes rfl ?_ ?_)
        | (refine DQ.step rfl rfl rfl rfl (QStep.assign rfl) ?_)
        | (refine AWL.frzA rfl rfl ?_)
        | (refine AWL.callV (f := 10) rfl rfl rfl rfl ?_ (Nat.le_of_ble_eq_true rfl) rfl (awake_ok) ?_; (focus kernel_rfl))
        | (refine AWL.call (f := 10) rfl rfl rfl ?_ rfl (Nat.le_of_ble_eq_true rfl) rfl (awake_ok) ?_; (focus kernel_rfl))
        | (refine CWr.call (f := 10) rfl ?_ rfl (awake_ok) (fun _ _ h => h) ?_ ?_ ?_; (focus kernel_rfl))
        | (refine DQ.step rfl rfl rfl rfl (QStep.call (f := 10) rfl ?_ rfl (awake_ok) (fun _ _ h => h) (fun _ => rfl)) ?_; (focus kernel_rfl))
        | (refine DQ.yesC (QStep.call (f := 10) rfl ?_ rfl (awake_ok) (fun _ _ h => h) (fun _ => rfl)) ?_; (focus kernel_rfl))
        | (refine AWL.callV (f := 15) rfl rfl rfl rfl ?_ (Nat.le_of_ble_eq_true rfl) rfl (pu_one n hn) ?_; (focus kernel_rfl))
        | (refine AWL.call (f := 15) rfl rfl rfl ?_ rfl (Nat.le_of_ble_eq_true rfl) rfl (pu_one n hn) ?_; (focus kernel_rfl))
        | (refine CWr.call (f := 15) rfl ?_ rfl (pu_one n hn) (fun _ _ h => h) ?_ ?_ ?_; (focus kernel_rfl))
        | (refine DQ.step rfl rfl rfl rfl (QStep.call (f := 15) rfl ?_ rfl (pu_one n hn) (fun _ _ h => h) (fun _ => rfl)) ?_; (focus kernel_rfl))
        | (refine DQ.yesC (QStep.call (f := 15) rfl ?_ rfl (pu_one n hn) (fun _ _ h => h) (fun _ => rfl)) ?_; (focus kernel_rfl))
        | (refine AWL.callV (f := 11) rfl rfl rfl rfl ?_ (Nat.le_of_ble_eq_true rfl) rfl (hcall) ?_; (focus kernel_rfl))
        | (refine AWL.call (f := 11) rfl rfl rfl ?_ rfl (Nat.le_of_ble_eq_true rfl) rfl (hcall) ?_; (focus kernel_rfl))
        | (refine CWr.call (f := 11) rfl ?_ rfl (hcall) (fun _ _ h => h) ?_ ?_ ?_; (focus kernel_rfl))
        | (refine DQ.step rfl rfl rfl rfl (QStep.call (f := 11) rfl ?_ rfl (hcall) (fun _ _ h => h) (fun _ => rfl)) ?_; (focus kernel_rfl))
        | (refine DQ.yesC (QStep.call (f := 11) rfl ?_ rfl (hcall) (fun _ _ h => h) (fun _ => rfl)) ?_; (focus kernel_rfl))
        | (refine AWL.callV (f := 19) rfl rfl rfl rfl ?_ (Nat.le_of_ble_eq_true rfl) rfl (len_ok _ hn) ?_; (focus kernel_rfl))
        | (refine AWL.call (f := 19) rfl rfl rfl ?_ rfl (Nat.le_of_ble_eq_true rfl) rfl (len_ok _ hn) ?_; (focus kernel_rfl))
        | (refine CWr.call (f := 19) rfl ?_ rfl (len_ok _ hn) (fun _ _ h => h) ?_ ?_ ?_; (focus kernel_rfl))
        | (refine DQ.step rfl rfl rfl rfl (QStep.call (f := 19) rfl ?_ rfl (len_ok _ hn) (fun _ _ h => h) (fun _ => rfl)) ?_; (focus kernel_rfl))
        | (refine DQ.yesC (QStep.call (f := 19) rfl ?_ rfl (len_ok _ hn) (fun _ _ h => h) (fun _ => rfl)) ?_; (focus kernel_rfl))
        | fail) <;> (first | ((first | show AWL _ _ _ _ _ | show DQ _ _ _ _ _ _ | show AW _ _ _ _ | (rintro _ _ ⟨rfl, rfl⟩; (try refine And.intro rfl ?_))); (try simp (disch := omega) only [NS, Nat.reduceBEq, Nat.reduceAdd, Nat.reduceMul, TY, slx, hT])) | (focus ((first | exact trivial | omega | exact ld_nums i3 _ _ (by first | assumption | omega | (simp only [List.length_append]; omega)) | exact ld_nums i5 _ _ (by first | assumption | omega | (simp only [List.length_append]; omega)) | exact ld_nums i24 _ _ (by first | assumption | omega | (simp only [List.length_append]; omega)) | (show _ ≤ _; omega) | (simp only [List.length_take, List.length_drop, List.length_append, List.length_cons, List.length_nil]; omega) | ((repeat' (first | exact trivial | exact rfl | exact Nat.le_of_ble_eq_true rfl | refine And.intro ?_ ?_ | fail)); done) | ((try simp (disch := omega) only [NS, Nat.reduceBEq, Nat.reduceAdd, Nat.reduceMul, TY, slx, hT]); (repeat' (first | exact trivial | exact rfl | exact ⟨_, _, rfl⟩ | exact ⟨_, rfl⟩ | exact Nat.le_of_ble_eq_true rfl | exact Nat.zero_lt_succ _ | omega | refine And.intro ?_ ?_ | fail)); done)); done))))
      | (refine AWL.guard2 rfl rfl rfl rfl rfl rfl ?_ ?_ <;> (intro hc; (try simp only [Bool.not_true, Bool.not_false] at hc); first | (cases hc; done) | ((try simp only [hc]); (try simp only [beq_iff_eq, bne_iff_ne, decide_eq_true_eq, decide_eq_false_iff_not, beq_eq_false_iff_ne, bne_eq_false_iff_eq, ne_eq, Bool.not_eq_true, Bool.not_eq_false, Bool.not_eq_eq_eq_not, Bool.not_true, Bool.not_false, Decidable.not_not, Int.not_lt, Int.not_le] at hc); (try (exfalso; omega)); (try (guard_hyp hc : True; clear hc)))))
      | (refine AWL.guard2 rfl rfl rfl rfl rfl rfl (fun hc => ?_) ?_; (cases hc; done))
      | (refine AW.drawn false hmix ?_ ?_; (focus kernel_rfl))
      | (refine AWL.guardU rfl rfl rfl rfl rfl rfl ?_; (try simp (disch := omega) only [NS, Nat.reduceBEq, Nat.reduceAdd, Nat.reduceMul, TY, slx, hT]))
      | (refine DQ.guardU rfl rfl rfl rfl rfl rfl rfl ?_; (try simp (disch := omega) only [NS, Nat.reduceBEq, Nat.reduceAdd, Nat.reduceMul, TY, slx, hT]))
      | refine DQ.tail rfl ?_
      | (refine DQ.guard2 rfl rfl rfl rfl rfl rfl rfl ?_ ?_ <;> (intro hc; (try simp only [Bool.not_true, Bool.not_false] at hc); first | (cases hc; done) | ((try simp only [hc]); (try simp only [beq_iff_eq, bne_iff_ne, decide_eq_true_eq, decide_eq_false_iff_not, beq_eq_false_iff_ne, bne_eq_false_iff_eq, ne_eq, Bool.not_eq_true, Bool.not_eq_false, Bool.not_eq_eq_eq_not, Bool.not_true, Bool.not_false, Decidable.not_not, Int.not_lt, Int.not_le] at hc); (try (exfalso; omega)); (try (guard_hyp hc : True; clear hc)))))
      | (refine AW.cond rfl (fun hc => ?_) (fun hc => ?_) <;> first | (cases hc; done) | ((try simp only [beq_iff_eq, bne_iff_ne, decide_eq_true_eq, decide_eq_false_iff_not, beq_eq_false_iff_ne, bne_eq_false_iff_eq, ne_eq, Bool.not_eq_true, Bool.not_eq_false, Bool.not_eq_eq_eq_not, Bool.not_true, Bool.not_false, Decidable.not_not, Int.not_lt, Int.not_le] at hc); (try (exfalso; omega)); (try (guard_hyp hc : True; clear hc))))
      | (refine EndQ.mk rfl rfl rfl ?_ ?_ ?_; (focus (first | exact Or.inl rfl | exact Or.inr rfl)); (focus ((first | exact trivial | omega | exact ld_nums i3 _ _ (by first | assumption | omega | (simp only [List.length_append]; omega)) | exact ld_nums i5 _ _ (by first | assumption | omega | (simp only [List.length_append]; omega)) | exact ld_nums i24 _ _ (by first | assumption | omega | (simp only [List.length_append]; omega)) | (show _ ≤ _; omega) | (simp only [List.length_take, List.length_drop, List.length_append, List.length_cons, List.length_nil]; omega) | ((repeat' (first | exact trivial | exact rfl | exact Nat.le_of_ble_eq_true rfl | refine And.intro ?_ ?_ | fail)); done) | ((try simp (disch := omega) only [NS, Nat.reduceBEq, Nat.reduceAdd, Nat.reduceMul, TY, slx, hT]); (repeat' (first | exact trivial | exact rfl | exact ⟨_, _, rfl⟩ | exact ⟨_, rfl⟩ | exact Nat.le_of_ble_eq_true rfl | exact Nat.zero_lt_succ _ | omega | refine And.intro ?_ ?_ | fail)); done)); done)); (try simp (disch := omega) only [NS, Nat.reduceBEq, Nat.reduceAdd, Nat.reduceMul, TY, slx, hT]))
      | fail)
    all_goals first | exact ⟨trivial, trivial⟩ | exact ⟨rfl, trivial⟩ | (exfalso; omega) | trace_state
  · by_cases hl : bits < lenU n
    · rw [if_neg h, if_pos hl] at hcall
      refine AC.enter Try.func5 rfl (Nat.le_of_ble_eq_true rfl) ?_
      simp only [Try.f5]
      repeat' (first
        | refine AW.seq ?_
        | refine AW.block ?_
        | refine AW.region ?_
        | (refine AW.skip ?_; (try simp only [thenQ, blockQ, ↓reduceIte, Nat.reduceEqDiff]))
        | (refine AW.ret ?_; (try simp only [thenQ, blockQ, ↓reduceIte, Nat.reduceEqDiff]))
        | (refine AW.exit ?_; (try simp only [thenQ, blockQ, ↓reduceIte, Nat.reduceEqDiff]))
        | (refine AWL.nil ?_; (try simp only [thenQ, blockQ, ↓reduceIte, Nat.reduceEqDiff]))
        | (refine DQ.nil ?_; (try simp only [thenQ, blockQ, ↓reduceIte, Nat.reduceEqDiff]))
        | ((first
          | (refine AWL.op (sl := SL) rfl rfl ?_ ?_)
          | (refine DQ.op rfl rfl rfl rfl rfl ?_ ?_)
          | (refine DQ.yes rfl ?_ ?_)
          | (refine DQ.step rfl rfl rfl rfl (QStep.assign rfl) ?_)
          | (refine AWL.frzA rfl rfl ?_)
          | (refine AWL.callV (f := 10) rfl rfl rfl rfl ?_ (Nat.le_of_ble_eq_true rfl) rfl (awake_ok) ?_; (focus kernel_rfl))
          | (refine AWL.call (f := 10) rfl rfl rfl ?_ rfl (Nat.le_of_ble_eq_true rfl) rfl (awake_ok) ?_; (focus kernel_rfl))
          | (refine CWr.call (f := 10) rfl ?_ rfl (awake_ok) (fun _ _ h => h) ?_ ?_ ?_; (focus kernel_rfl))
          | (refine DQ.step rfl rfl rfl rfl (QStep.call (f := 10) rfl ?_ rfl (awake_ok) (fun _ _ h => h) (fun _ => rfl)) ?_; (focus kernel_rfl))
          | (refine DQ.yesC (QStep.call (f := 10) rfl ?_ rfl (awake_ok) (fun _ _ h => h) (fun _ => rfl)) ?_; (focus kernel_rfl))
          | (refine AWL.callV (f := 15) rfl rfl rfl rfl ?_ (Nat.le_of_ble_eq_true rfl) rfl (pu_one n hn) ?_; (focus kernel_rfl))
          | (refine AWL.call (f := 15) rfl rfl rfl ?_ rfl (Nat.le_of_ble_eq_true rfl) rfl (pu_one n hn) ?_; (focus kernel_rfl))
          | (refine CWr.call (f := 15) rfl ?_ rfl (pu_one n hn) (fun _ _ h => h) ?_ ?_ ?_; (focus kernel_rfl))
          | (refine DQ.step rfl rfl rfl rfl (QStep.call (f := 15) rfl ?_ rfl (pu_one n hn) (fun _ _ h => h) (fun _ => rfl)) ?_; (focus kernel_rfl))
          | (refine DQ.yesC (QStep.call (f := 15) rfl ?_ rfl (pu_one n hn) (fun _ _ h => h) (fun _ => rfl)) ?_; (focus kernel_rfl))
          | (refine AWL.callV (f := 11) rfl rfl rfl rfl ?_ (Nat.le_of_ble_eq_true rfl) rfl (hcall) ?_; (focus kernel_rfl))
          | (refine AWL.call (f := 11) rfl rfl rfl ?_ rfl (Nat.le_of_ble_eq_true rfl) rfl (hcall) ?_; (focus kernel_rfl))
          | (refine CWr.call (f := 11) rfl ?_ rfl (hcall) (fun _ _ h => h) ?_ ?_ ?_; (focus kernel_rfl))
          | (refine DQ.step rfl rfl rfl rfl (QStep.call (f := 11) rfl ?_ rfl (hcall) (fun _ _ h => h) (fun _ => rfl)) ?_; (focus kernel_rfl))
          | (refine DQ.yesC (QStep.call (f := 11) rfl ?_ rfl (hcall) (fun _ _ h => h) (fun _ => rfl)) ?_; (focus kernel_rfl))
          | (refine AWL.callV (f := 19) rfl rfl rfl rfl ?_ (Nat.le_of_ble_eq_true rfl) rfl (len_ok _ hn) ?_; (focus kernel_rfl))
          | (refine AWL.call (f := 19) rfl rfl rfl ?_ rfl (Nat.le_of_ble_eq_true rfl) rfl (len_ok _ hn) ?_; (focus kernel_rfl))
          | (refine CWr.call (f := 19) rfl ?_ rfl (len_ok _ hn) (fun _ _ h => h) ?_ ?_ ?_; (focus kernel_rfl))
          | (refine DQ.step rfl rfl rfl rfl (QStep.call (f := 19) rfl ?_ rfl (len_ok _ hn) (fun _ _ h => h) (fun _ => rfl)) ?_; (focus kernel_rfl))
          | (refine DQ.yesC (QStep.call (f := 19) rfl ?_ rfl (len_ok _ hn) (fun _ _ h => h) (fun _ => rfl)) ?_; (focus kernel_rfl))
          | fail) <;> (first | ((first | show AWL _ _ _ _ _ | show DQ _ _ _ _ _ _ | show AW _ _ _ _ | (rintro _ _ ⟨rfl, rfl⟩; (try refine And.intro rfl ?_))); (try simp (disch := omega) only [NS, Nat.reduceBEq, Nat.reduceAdd, Nat.reduceMul, TY, slx, hT])) | (focus ((first | exact trivial | omega | exact ld_nums i3 _ _ (by first | assumption | omega | (simp only [List.length_append]; omega)) | exact ld_nums i5 _ _ (by first | assumption | omega | (simp only [List.length_append]; omega)) | exact ld_nums i24 _ _ (by first | assumption | omega | (simp only [List.length_append]; omega)) | (show _ ≤ _; omega) | (simp only [List.length_take, List.length_drop, List.length_append, List.length_cons, List.length_nil]; omega) | ((repeat' (first | exact trivial | exact rfl | exact Nat.le_of_ble_eq_true rfl | refine And.intro ?_ ?_ | fail)); done) | ((try simp (disch := omega) only [NS, Nat.reduceBEq, Nat.reduceAdd, Nat.reduceMul, TY, slx, hT]); (repeat' (first | exact trivial | exact rfl | exact ⟨_, _, rfl⟩ | exact ⟨_, rfl⟩ | exact Nat.le_of_ble_eq_true rfl | exact Nat.zero_lt_succ _ | omega | refine And.intro ?_ ?_ | fail)); done)); done))))
        | (refine AWL.guard2 rfl rfl rfl rfl rfl rfl ?_ ?_ <;> (intro hc; (try simp only [Bool.not_true, Bool.not_false] at hc); first | (cases hc; done) | ((try simp only [hc]); (try simp only [beq_iff_eq, bne_iff_ne, decide_eq_true_eq, decide_eq_false_iff_not, beq_eq_false_iff_ne, bne_eq_false_iff_eq, ne_eq, Bool.not_eq_true, Bool.not_eq_false, Bool.not_eq_eq_eq_not, Bool.not_true, Bool.not_false, Decidable.not_not, Int.not_lt, Int.not_le] at hc); (try (exfalso; omega)); (try (guard_hyp hc : True; clear hc)))))
        | (refine AWL.guard2 rfl rfl rfl rfl rfl rfl (fun hc => ?_) ?_; (cases hc; done))
        | (refine AW.drawn false hmix ?_ ?_; (focus kernel_rfl))
        | (refine AWL.guardU rfl rfl rfl rfl rfl rfl ?_; (try simp (disch := omega) only [NS, Nat.reduceBEq, Nat.reduceAdd, Nat.reduceMul, TY, slx, hT]))
        | (refine DQ.guardU rfl rfl rfl rfl rfl rfl rfl ?_; (try simp (disch := omega) only [NS, Nat.reduceBEq, Nat.reduceAdd, Nat.reduceMul, TY, slx, hT]))
        | refine DQ.tail rfl ?_
        | (refine DQ.guard2 rfl rfl rfl rfl rfl rfl rfl ?_ ?_ <;> (intro hc; (try simp only [Bool.not_true, Bool.not_false] at hc); first | (cases hc; done) | ((try simp only [hc]); (try simp only [beq_iff_eq, bne_iff_ne, decide_eq_true_eq, decide_eq_false_iff_not, beq_eq_false_iff_ne, bne_eq_false_iff_eq, ne_eq, Bool.not_eq_true, Bool.not_eq_false, Bool.not_eq_eq_eq_not, Bool.not_true, Bool.not_false, Decidable.not_not, Int.not_lt, Int.not_le] at hc); (try (exfalso; omega)); (try (guard_hyp hc : True; clear hc)))))
        | (refine AW.cond rfl (fun hc => ?_) (fun hc => ?_) <;> first | (cases hc; done) | ((try simp only [beq_iff_eq, bne_iff_ne, decide_eq_true_eq, decide_eq_false_iff_not, beq_eq_false_iff_ne, bne_eq_false_iff_eq, ne_eq, Bool.not_eq_true, Bool.not_eq_false, Bool.not_eq_eq_eq_not, Bool.not_true, Bool.not_false, Decidable.not_not, Int.not_lt, Int.not_le] at hc); (try (exfalso; omega)); (try (guard_hyp hc : True; clear hc))))
        | (refine EndQ.mk rfl rfl rfl ?_ ?_ ?_; (focus (first | exact Or.inl rfl | exact Or.inr rfl)); (focus ((first | exact trivial | omega | exact ld_nums i3 _ _ (by first | assumption | omega | (simp only [List.length_append]; omega)) | exact ld_nums i5 _ _ (by first | assumption | omega | (simp only [List.length_append]; omega)) | exact ld_nums i24 _ _ (by first | assumption | omega | (simp only [List.length_append]; omega)) | (show _ ≤ _; omega) | (simp only [List.length_take, List.length_drop, List.length_append, List.length_cons, List.length_nil]; omega) | ((repeat' (first | exact trivial | exact rfl | exact Nat.le_of_ble_eq_true rfl | refine And.intro ?_ ?_ | fail)); done) | ((try simp (disch := omega) only [NS, Nat.reduceBEq, Nat.reduceAdd, Nat.reduceMul, TY, slx, hT]); (repeat' (first | exact trivial | exact rfl | exact ⟨_, _, rfl⟩ | exact ⟨_, rfl⟩ | exact Nat.le_of_ble_eq_true rfl | exact Nat.zero_lt_succ _ | omega | refine And.intro ?_ ?_ | fail)); done)); done)); (try simp (disch := omega) only [NS, Nat.reduceBEq, Nat.reduceAdd, Nat.reduceMul, TY, slx, hT]))
        | fail)
      all_goals first | exact ⟨trivial, trivial⟩ | exact ⟨rfl, trivial⟩ | (exfalso; omega) | trace_state
    · rw [if_neg h, if_neg hl] at hcall
      refine AC.enter Try.func5 rfl (Nat.le_of_ble_eq_true rfl) ?_
      simp only [Try.f5]
      repeat' (first
        | refine AW.seq ?_
        | refine AW.block ?_
        | refine AW.region ?_
        | (refine AW.skip ?_; (try simp only [thenQ, blockQ, ↓reduceIte, Nat.reduceEqDiff]))
        | (refine AW.ret ?_; (try simp only [thenQ, blockQ, ↓reduceIte, Nat.reduceEqDiff]))
        | (refine AW.exit ?_; (try simp only [thenQ, blockQ, ↓reduceIte, Nat.reduceEqDiff]))
        | (refine AWL.nil ?_; (try simp only [thenQ, blockQ, ↓reduceIte, Nat.reduceEqDiff]))
        | (refine DQ.nil ?_; (try simp only [thenQ, blockQ, ↓reduceIte, Nat.reduceEqDiff]))
        | ((first
          | (refine AWL.op (sl := SL) rfl rfl ?_ ?_)
          | (refine DQ.op rfl rfl rfl rfl rfl ?_ ?_)
          | (refine DQ.yes rfl ?_ ?_)
          | (refine DQ.step rfl rfl rfl rfl (QStep.assign rfl) ?_)
          | (refine AWL.frzA rfl rfl ?_)
          | (refine AWL.callV (f := 10) rfl rfl rfl rfl ?_ (Nat.le_of_ble_eq_true rfl) rfl (awake_ok) ?_; (focus kernel_rfl))
          | (refine AWL.call (f := 10) rfl rfl rfl ?_ rfl (Nat.le_of_ble_eq_true rfl) rfl (awake_ok) ?_; (focus kernel_rfl))
          | (refine CWr.call (f := 10) rfl ?_ rfl (awake_ok) (fun _ _ h => h) ?_ ?_ ?_; (focus kernel_rfl))
          | (refine DQ.step rfl rfl rfl rfl (QStep.call (f := 10) rfl ?_ rfl (awake_ok) (fun _ _ h => h) (fun _ => rfl)) ?_; (focus kernel_rfl))
          | (refine DQ.yesC (QStep.call (f := 10) rfl ?_ rfl (awake_ok) (fun _ _ h => h) (fun _ => rfl)) ?_; (focus kernel_rfl))
          | (refine AWL.callV (f := 15) rfl rfl rfl rfl ?_ (Nat.le_of_ble_eq_true rfl) rfl (pu_one n hn) ?_; (focus kernel_rfl))
          | (refine AWL.call (f := 15) rfl rfl rfl ?_ rfl (Nat.le_of_ble_eq_true rfl) rfl (pu_one n hn) ?_; (focus kernel_rfl))
          | (refine CWr.call (f := 15) rfl ?_ rfl (pu_one n hn) (fun _ _ h => h) ?_ ?_ ?_; (focus kernel_rfl))
          | (refine DQ.step rfl rfl rfl rfl (QStep.call (f := 15) rfl ?_ rfl (pu_one n hn) (fun _ _ h => h) (fun _ => rfl)) ?_; (focus kernel_rfl))
          | (refine DQ.yesC (QStep.call (f := 15) rfl ?_ rfl (pu_one n hn) (fun _ _ h => h) (fun _ => rfl)) ?_; (focus kernel_rfl))
          | (refine AWL.callV (f := 11) rfl rfl rfl rfl ?_ (Nat.le_of_ble_eq_true rfl) rfl (hcall) ?_; (focus kernel_rfl))
          | (refine AWL.call (f := 11) rfl rfl rfl ?_ rfl (Nat.le_of_ble_eq_true rfl) rfl (hcall) ?_; (focus kernel_rfl))
          | (refine CWr.call (f := 11) rfl ?_ rfl (hcall) (fun _ _ h => h) ?_ ?_ ?_; (focus kernel_rfl))
          | (refine DQ.step rfl rfl rfl rfl (QStep.call (f := 11) rfl ?_ rfl (hcall) (fun _ _ h => h) (fun _ => rfl)) ?_; (focus kernel_rfl))
          | (refine DQ.yesC (QStep.call (f := 11) rfl ?_ rfl (hcall) (fun _ _ h => h) (fun _ => rfl)) ?_; (focus kernel_rfl))
          | (refine AWL.callV (f := 19) rfl rfl rfl rfl ?_ (Nat.le_of_ble_eq_true rfl) rfl (len_ok _ hn) ?_; (focus kernel_rfl))
          | (refine AWL.call (f := 19) rfl rfl rfl ?_ rfl (Nat.le_of_ble_eq_true rfl) rfl (len_ok _ hn) ?_; (focus kernel_rfl))
          | (refine CWr.call (f := 19) rfl ?_ rfl (len_ok _ hn) (fun _ _ h => h) ?_ ?_ ?_; (focus kernel_rfl))
          | (refine DQ.step rfl rfl rfl rfl (QStep.call (f := 19) rfl ?_ rfl (len_ok _ hn) (fun _ _ h => h) (fun _ => rfl)) ?_; (focus kernel_rfl))
          | (refine DQ.yesC (QStep.call (f := 19) rfl ?_ rfl (len_ok _ hn) (fun _ _ h => h) (fun _ => rfl)) ?_; (focus kernel_rfl))
          | fail) <;> (first | ((first | show AWL _ _ _ _ _ | show DQ _ _ _ _ _ _ | show AW _ _ _ _ | (rintro _ _ ⟨rfl, rfl⟩; (try refine And.intro rfl ?_))); (try simp (disch := omega) only [NS, Nat.reduceBEq, Nat.reduceAdd, Nat.reduceMul, TY, slx, hT, beq_self_eq_true])) | (focus ((first | exact trivial | omega | exact ld_nums i3 _ _ (by first | assumption | omega | (simp only [List.length_append]; omega)) | exact ld_nums i5 _ _ (by first | assumption | omega | (simp only [List.length_append]; omega)) | exact ld_nums i24 _ _ (by first | assumption | omega | (simp only [List.length_append]; omega)) | (show _ ≤ _; omega) | (simp only [List.length_take, List.length_drop, List.length_append, List.length_cons, List.length_nil]; omega) | ((repeat' (first | exact trivial | exact rfl | exact Nat.le_of_ble_eq_true rfl | refine And.intro ?_ ?_ | fail)); done) | ((try simp (disch := omega) only [NS, Nat.reduceBEq, Nat.reduceAdd, Nat.reduceMul, TY, slx, hT, beq_self_eq_true]); (repeat' (first | exact trivial | exact rfl | exact ⟨_, _, rfl⟩ | exact ⟨_, rfl⟩ | exact Nat.le_of_ble_eq_true rfl | exact Nat.zero_lt_succ _ | omega | refine And.intro ?_ ?_ | fail)); done)); done))))
        | (refine AWL.guard2 rfl rfl rfl rfl rfl rfl ?_ ?_ <;> (intro hc; (try simp only [Bool.not_true, Bool.not_false] at hc); first | (cases hc; done) | ((try simp only [hc]); (try simp only [beq_iff_eq, bne_iff_ne, decide_eq_true_eq, decide_eq_false_iff_not, beq_eq_false_iff_ne, bne_eq_false_iff_eq, ne_eq, Bool.not_eq_true, Bool.not_eq_false, Bool.not_eq_eq_eq_not, Bool.not_true, Bool.not_false, Decidable.not_not, Int.not_lt, Int.not_le] at hc); (try (exfalso; omega)); (try (guard_hyp hc : True; clear hc)))))
        | (refine AWL.guard2 rfl rfl rfl rfl rfl rfl (fun hc => ?_) ?_; (cases hc; done))
        | (refine AW.drawn false hmix ?_ ?_; (focus kernel_rfl))
        | (refine AWL.guardU rfl rfl rfl rfl rfl rfl ?_; (try simp (disch := omega) only [NS, Nat.reduceBEq, Nat.reduceAdd, Nat.reduceMul, TY, slx, hT, beq_self_eq_true]))
        | (refine DQ.guardU rfl rfl rfl rfl rfl rfl rfl ?_; (try simp (disch := omega) only [NS, Nat.reduceBEq, Nat.reduceAdd, Nat.reduceMul, TY, slx, hT, beq_self_eq_true]))
        | refine DQ.tail rfl ?_
        | (refine DQ.guard2 rfl rfl rfl rfl rfl rfl rfl ?_ ?_ <;> (intro hc; (try simp only [Bool.not_true, Bool.not_false] at hc); first | (cases hc; done) | ((try simp only [hc]); (try simp only [beq_iff_eq, bne_iff_ne, decide_eq_true_eq, decide_eq_false_iff_not, beq_eq_false_iff_ne, bne_eq_false_iff_eq, ne_eq, Bool.not_eq_true, Bool.not_eq_false, Bool.not_eq_eq_eq_not, Bool.not_true, Bool.not_false, Decidable.not_not, Int.not_lt, Int.not_le] at hc); (try (exfalso; omega)); (try (guard_hyp hc : True; clear hc)))))
        | (refine AW.cond rfl (fun hc => ?_) (fun hc => ?_) <;> first | (cases hc; done) | ((try simp only [beq_iff_eq, bne_iff_ne, decide_eq_true_eq, decide_eq_false_iff_not, beq_eq_false_iff_ne, bne_eq_false_iff_eq, ne_eq, Bool.not_eq_true, Bool.not_eq_false, Bool.not_eq_eq_eq_not, Bool.not_true, Bool.not_false, Decidable.not_not, Int.not_lt, Int.not_le] at hc); (try (exfalso; omega)); (try (guard_hyp hc : True; clear hc))))
        | (refine EndQ.mk rfl rfl rfl ?_ ?_ ?_; (focus (first | exact Or.inl rfl | exact Or.inr rfl)); (focus ((first | exact trivial | omega | exact ld_nums i3 _ _ (by first | assumption | omega | (simp only [List.length_append]; omega)) | exact ld_nums i5 _ _ (by first | assumption | omega | (simp only [List.length_append]; omega)) | exact ld_nums i24 _ _ (by first | assumption | omega | (simp only [List.length_append]; omega)) | (show _ ≤ _; omega) | (simp only [List.length_take, List.length_drop, List.length_append, List.length_cons, List.length_nil]; omega) | ((repeat' (first | exact trivial | exact rfl | exact Nat.le_of_ble_eq_true rfl | refine And.intro ?_ ?_ | fail)); done) | ((try simp (disch := omega) only [NS, Nat.reduceBEq, Nat.reduceAdd, Nat.reduceMul, TY, slx, hT, beq_self_eq_true]); (repeat' (first | exact trivial | exact rfl | exact ⟨_, _, rfl⟩ | exact ⟨_, rfl⟩ | exact Nat.le_of_ble_eq_true rfl | exact Nat.zero_lt_succ _ | omega | refine And.intro ?_ ?_ | fail)); done)); done)); (try simp (disch := omega) only [NS, Nat.reduceBEq, Nat.reduceAdd, Nat.reduceMul, TY, slx, hT, beq_self_eq_true]))
        | fail)
      all_goals first | exact ⟨trivial, trivial⟩ | exact ⟨rfl, trivial⟩ | (exfalso; omega) | trace_state
end Go.Proofs.Yticidhkilfkgbaa
