/- LebSigned. -/
import Derived.Test.YticidhkilfkgbaaV4
import Derived.Test.YticidhkilfkgbaaLBack
namespace Go.Proofs.Yticidhkilfkgbaa
set_option linter.unusedSimpArgs false
set_option linter.unusedVariables false
open Go Go.Abs
attribute [local irreducible] AW AWL AC DQ IntKind.wrap

theorem ps_one (n : Int) (hn : -2 ^ 63 ≤ n ∧ n < 2 ^ 63) : AC Try.prog 17 [.view 1 1 (nums .i64 [n])] (fun r m => r = .ref 2 0 (putS n).length 1 ∧ m = [(2, nums .u8 (putS n))]) := by
  have := ps_ok [n] (by intro x hx; rw [List.mem_singleton] at hx; subst hx; exact hn) (by simp)
  have e : putSs [n] = putS n := by simp [putSs]
  rw [e] at this; exact this
def sizeOf' (n : Int) : Int := if n < 0 then -1 - n else n
def needS (n : Int) : Int := if sizeOf' n > 0 then 1 + lenU (sizeOf' n).toNat else 1
set_option maxRecDepth 4000 in
set_option maxHeartbeats 4000000 in
theorem lebSigned_ok (n : Int) (hn : -2 ^ 63 ≤ n ∧ n < 2 ^ 63) (bs : List Int) (hb : bytes bs) (hx : bs.length ≤ 1048576) (bits : Int) :
    AC Try.prog 6 [.int .i64 n, .view bs.length 1 (nums .u8 bs), .int .i64 bits] (fun r m => r = .bool true ∧ m = []) := by
  have hby : bytes (putS n ++ bs) := bytes_append (putS_bytes n) hb
  have hln := putS_len 9 n (by simp only [Nat.reduceMul, Int.reducePow, Int.reduceMul]; omega)
  have hT : (putS n ++ bs).take ((putS n).length + bs.length) = putS n ++ bs := List.take_of_length_le (by simp only [List.length_append]; omega)
  have hU : sSpec (putS n ++ bs) 0 bits = if bits < 1 ∨ bits > 64 then (0, 0, 1) else if -2 ^ (bits - 1).toNat ≤ n ∧ n < 2 ^ (bits - 1).toNat then (n, ((putS n).length : Int), 0) else (0, 0, 6) := by
    by_cases h : bits < 1 ∨ bits > 64
    · rw [sSpec, if_pos (by omega), if_pos h]
    · rw [sSpec, if_neg (by simp only [List.length_append]; omega), if_neg h]
      have hr := sRd_put bits bs n 0 0 0 (by omega) (by omega) (by decide) (by decide)
      rw [show 7 * 0 = 0 from rfl] at hr
      rw [show (List.drop (Int.toNat 0) (putS n ++ bs)) = putS n ++ bs from rfl, hr]
      simp
  have hcall := s_at ((putS n).length + bs.length) (putS n ++ bs) (by rw [List.length_append]) hby (by rw [List.length_append]; omega) 0 bits
  rw [hU] at hcall
  by_cases h : bits < 1 ∨ bits > 64
  · rw [if_pos h] at hcall
    have hsz : True := trivial
    refine AC.enter Try.func6 rfl (Nat.le_of_ble_eq_true rfl) ?_
    simp only [Try.f6]
    repeat' (first
      | refine AW.seq ?_
      | refine AW.block ?_
      | refine AW.region ?_
      | (refine AW.skip ?_; (try simp only [thenQ, blockQ, ↓reduceIte, Nat.reduceEqDiff]))
      | (refine AW.ret ?_; (try simp only [thenQ, blockQ, ↓reduceIte, Nat.reduceEqDiff]))
      | (refine AW.exit ?_; (try simp only [thenQ, blockQ, ↓reduceIte, Nat.reduceEqDiff]))
      | (refine AWL.nil ?_; (try simp only [thenQ, blockQ, ↓reduceIte, Nat.reduceEqDiff]))
      | (refine DQ.nil ?_; (try simp only [thenQ, blockQ, ↓reduceIte, Nat.reduceEqDiff]))
      | ((first
        | (refine AWL.op (sl := SL) rfl rfl ?_ ?_)
        | (refine DQ.op rfl rfl rfl rfl rfl ?_ ?_)
        | (refine DQ.yes rfl ?_ ?_)
        | (refine DQ.step rfl rfl rfl rfl (QStep.assign rfl) ?_)
        | (refine AWL.frzA rfl rfl ?_)
        | (refine AWL.callV (f := 10) rfl rfl rfl rfl ?_ (Nat.le_of_ble_eq_true rfl) rfl (awake_ok) ?_; (focus kernel_rfl))
        | (refine AWL.call (f := 10) rfl rfl rfl ?_ rfl (Nat.le_of_ble_eq_true rfl) rfl (awake_ok) ?_; (focus kernel_rfl))
        | (refine CWr.call (f := 10) rfl ?_ rfl (awake_ok) (fun _ _ h => h) ?_ ?_ ?_; (focus kernel_rfl))
        | (refine DQ.step rfl rfl rfl rfl (QStep.call (f := 10) rfl ?_ rfl (awake_ok) (fun _ _ h => h) (fun _ => rfl)) ?_; (focus kernel_rfl))
        | (refine DQ.yesC (QStep.call (f := 10) rfl ?_ rfl (awake_ok) (fun _ _ h => h) (fun _ => rfl)) ?_; (focus kernel_rfl))
        | (refine AWL.callV (f := 17) rfl rfl rfl rfl ?_ (Nat.le_of_ble_eq_true rfl) rfl (ps_one n hn) ?_; (focus kernel_rfl))
        | (refine AWL.call (f := 17) rfl rfl rfl ?_ rfl (Nat.le_of_ble_eq_true rfl) rfl (ps_one n hn) ?_; (focus kernel_rfl))
        | (refine CWr.call (f := 17) rfl ?_ rfl (ps_one n hn) (fun _ _ h => h) ?_ ?_ ?_; (focus kernel_rfl))
        | (refine DQ.step rfl rfl rfl rfl (QStep.call (f := 17) rfl ?_ rfl (ps_one n hn) (fun _ _ h => h) (fun _ => rfl)) ?_; (focus kernel_rfl))
        | (refine DQ.yesC (QStep.call (f := 17) rfl ?_ rfl (ps_one n hn) (fun _ _ h => h) (fun _ => rfl)) ?_; (focus kernel_rfl))
        | (refine AWL.callV (f := 13) rfl rfl rfl rfl ?_ (Nat.le_of_ble_eq_true rfl) rfl (hcall) ?_; (focus kernel_rfl))
        | (refine AWL.call (f := 13) rfl rfl rfl ?_ rfl (Nat.le_of_ble_eq_true rfl) rfl (hcall) ?_; (focus kernel_rfl))
        | (refine CWr.call (f := 13) rfl ?_ rfl (hcall) (fun _ _ h => h) ?_ ?_ ?_; (focus kernel_rfl))
        | (refine DQ.step rfl rfl rfl rfl (QStep.call (f := 13) rfl ?_ rfl (hcall) (fun _ _ h => h) (fun _ => rfl)) ?_; (focus kernel_rfl))
        | (refine DQ.yesC (QStep.call (f := 13) rfl ?_ rfl (hcall) (fun _ _ h => h) (fun _ => rfl)) ?_; (focus kernel_rfl))
        | (refine AWL.callV (f := 19) rfl rfl rfl rfl ?_ (Nat.le_of_ble_eq_true rfl) rfl (hsz) ?_; (focus kernel_rfl))
        | (refine AWL.call (f := 19) rfl rfl rfl ?_ rfl (Nat.le_of_ble_eq_true rfl) rfl (hsz) ?_; (focus kernel_rfl))
        | (refine CWr.call (f := 19) rfl ?_ rfl (hsz) (fun _ _ h => h) ?_ ?_ ?_; (focus kernel_rfl))
        | (refine DQ.step rfl rfl rfl rfl (QStep.call (f := 19) rfl ?_ rfl (hsz) (fun _ _ h => h) (fun _ => rfl)) ?_; (focus kernel_rfl))
        | (refine DQ.yesC (QStep.call (f := 19) rfl ?_ rfl (hsz) (fun _ _ h => h) (fun _ => rfl)) ?_; (focus kernel_rfl))
        | fail) <;> (first | ((first | show AWL _ _ _ _ _ | show DQ _ _ _ _ _ _ | show AW _ _ _ _ | (rintro _ _ ⟨rfl, rfl⟩; (try refine And.intro rfl ?_))); (try simp (disch := omega) only [NS, Nat.reduceBEq, Nat.reduceAdd, Nat.reduceMul, TY, slx, hT])) | (focus ((first | exact trivial | omega | exact ld_nums i3 _ _ (by first | assumption | omega | (simp only [List.length_append]; omega)) | exact ld_nums i5 _ _ (by first | assumption | omega | (simp only [List.length_append]; omega)) | exact ld_nums i24 _ _ (by first | assumption | omega | (simp only [List.length_append]; omega)) | (show _ ≤ _; omega) | (simp only [List.length_take, List.length_drop, List.length_append, List.length_cons, List.length_nil]; omega) | ((repeat' (first | exact trivial | exact rfl | exact Nat.le_of_ble_eq_true rfl | refine And.intro ?_ ?_ | fail)); done) | ((try simp (disch := omega) only [NS, Nat.reduceBEq, Nat.reduceAdd, Nat.reduceMul, TY, slx, hT]); (repeat' (first | exact trivial | exact rfl | exact ⟨_, _, rfl⟩ | exact ⟨_, rfl⟩ | exact Nat.le_of_ble_eq_true rfl | exact Nat.zero_lt_succ _ | omega | refine And.intro ?_ ?_ | fail)); done)); done))))
      | (refine AWL.guard2 rfl rfl rfl rfl rfl rfl ?_ ?_ <;> (intro hc; (try simp only [Bool.not_true, Bool.not_false] at hc); first | (cases hc; done) | ((try simp only [hc]); (try simp only [beq_iff_eq, bne_iff_ne, decide_eq_true_eq, decide_eq_false_iff_not, beq_eq_false_iff_ne, bne_eq_false_iff_eq, ne_eq, Bool.not_eq_true, Bool.not_eq_false, Bool.not_eq_eq_eq_not, Bool.not_true, Bool.not_false, Decidable.not_not, Int.not_lt, Int.not_le] at hc); (try (exfalso; omega)); (try (guard_hyp hc : True; clear hc)))))
      | (refine AWL.guard2 rfl rfl rfl rfl rfl rfl (fun hc => ?_) ?_; (cases hc; done))
      | (refine AW.drawn false hmix ?_ ?_; (focus kernel_rfl))
      | (refine AWL.guardU rfl rfl rfl rfl rfl rfl ?_; (try simp (disch := omega) only [NS, Nat.reduceBEq, Nat.reduceAdd, Nat.reduceMul, TY, slx, hT]))
      | (refine DQ.guardU rfl rfl rfl rfl rfl rfl rfl ?_; (try simp (disch := omega) only [NS, Nat.reduceBEq, Nat.reduceAdd, Nat.reduceMul, TY, slx, hT]))
      | refine DQ.tail rfl ?_
      | (refine DQ.guard2 rfl rfl rfl rfl rfl rfl rfl ?_ ?_ <;> (intro hc; (try simp only [Bool.not_true, Bool.not_false] at hc); first | (cases hc; done) | ((try simp only [hc]); (try simp only [beq_iff_eq, bne_iff_ne, decide_eq_true_eq, decide_eq_false_iff_not, beq_eq_false_iff_ne, bne_eq_false_iff_eq, ne_eq, Bool.not_eq_true, Bool.not_eq_false, Bool.not_eq_eq_eq_not, Bool.not_true, Bool.not_false, Decidable.not_not, Int.not_lt, Int.not_le] at hc); (try (exfalso; omega)); (try (guard_hyp hc : True; clear hc)))))
      | (refine AW.cond rfl (fun hc => ?_) (fun hc => ?_) <;> first | (cases hc; done) | ((try simp only [beq_iff_eq, bne_iff_ne, decide_eq_true_eq, decide_eq_false_iff_not, beq_eq_false_iff_ne, bne_eq_false_iff_eq, ne_eq, Bool.not_eq_true, Bool.not_eq_false, Bool.not_eq_eq_eq_not, Bool.not_true, Bool.not_false, Decidable.not_not, Int.not_lt, Int.not_le] at hc); (try (exfalso; omega)); (try (guard_hyp hc : True; clear hc))))
      | (refine EndQ.mk rfl rfl rfl ?_ ?_ ?_; (focus (first | exact Or.inl rfl | exact Or.inr rfl)); (focus ((first | exact trivial | omega | exact ld_nums i3 _ _ (by first | assumption | omega | (simp only [List.length_append]; omega)) | exact ld_nums i5 _ _ (by first | assumption | omega | (simp only [List.length_append]; omega)) | exact ld_nums i24 _ _ (by first | assumption | omega | (simp only [List.length_append]; omega)) | (show _ ≤ _; omega) | (simp only [List.length_take, List.length_drop, List.length_append, List.length_cons, List.length_nil]; omega) | ((repeat' (first | exact trivial | exact rfl | exact Nat.le_of_ble_eq_true rfl | refine And.intro ?_ ?_ | fail)); done) | ((try simp (disch := omega) only [NS, Nat.reduceBEq, Nat.reduceAdd, Nat.reduceMul, TY, slx, hT]); (repeat' (first | exact trivial | exact rfl | exact ⟨_, _, rfl⟩ | exact ⟨_, rfl⟩ | exact Nat.le_of_ble_eq_true rfl | exact Nat.zero_lt_succ _ | omega | refine And.intro ?_ ?_ | fail)); done)); done)); (try simp (disch := omega) only [NS, Nat.reduceBEq, Nat.reduceAdd, Nat.reduceMul, TY, slx, hT]))
      | fail)
    all_goals first | exact ⟨trivial, trivial⟩ | exact ⟨rfl, trivial⟩ | (exfalso; omega) | trace_state
  rw [if_neg h] at hcall
  obtain ⟨b, rfl⟩ : ∃ b : Nat, bits = ((b + 1 : Nat) : Int) := ⟨(bits - 1).toNat, by omega⟩
  rw [show (((b + 1 : Nat) : Int) - 1).toNat = b from by omega] at hcall
  have hneed : -2 ^ b ≤ n ∧ n < 2 ^ b ↔ (sizeOf' n).toNat < 2 ^ b := by
    have hp : ((2 : Int) ^ b) = ((2 ^ b : Nat) : Int) := by push_cast; rfl
    rw [hp]; unfold sizeOf'; split <;> omega
  have hlenS : 0 < b → (lenU (sizeOf' n).toNat ≤ b ↔ (sizeOf' n).toNat < 2 ^ b) := fun hb0 => by
    obtain ⟨c, rfl⟩ : ∃ c, b = c + 1 := ⟨b - 1, by omega⟩
    exact lenU_iff c _
  have hl1 := lenU_le 63 (sizeOf' n).toNat (by unfold sizeOf'; split <;> simp <;> omega)
  have hsz := len_ok (sizeOf' n).toNat (by unfold sizeOf'; split <;> simp <;> omega)
  have e1 : IntKind.i64.wrap (-1 - n) = -1 - n := wrap64_id _ (by omega) (by omega)
  have key : (((b + 1 : Nat) : Int) < if sizeOf' n > 0 then 1 + lenU (sizeOf' n).toNat else 1) ↔ ¬(-2 ^ b ≤ n ∧ n < 2 ^ b) := by
    rw [hneed]
    by_cases hb0 : 0 < b
    · have := hlenS hb0
      split
      · constructor
        · intro h1 h2; have := this.2 h2; omega
        · intro h1; apply Classical.byContradiction; intro h2; exact h1 (this.1 (by omega))
      · have hp : 0 < 2 ^ b := Nat.pow_pos (by decide)
        constructor
        · intro h1; omega
        · intro h1; omega
    · obtain rfl : b = 0 := by omega
      simp only [Nat.pow_zero]
      split <;> omega
  have hsn : 0 ≤ sizeOf' n := by unfold sizeOf'; split <;> omega
  have e4 : ((sizeOf' n).toNat : Int) = sizeOf' n := Int.toNat_of_nonneg hsn
  rw [e4] at hsz
  have e2 : IntKind.u64.wrap (sizeOf' n) = sizeOf' n := wrap_in rfl hsn (by show _ < (18446744073709551616 : Int); unfold sizeOf'; split <;> omega)
  have kA : sizeOf' n > 0 → (((b + 1 : Nat) : Int) < 1 + lenU (sizeOf' n).toNat ↔ ¬(-2 ^ b ≤ n ∧ n < 2 ^ b)) := fun h => by rw [if_pos h] at key; exact key
  have kB : ¬sizeOf' n > 0 → (((b + 1 : Nat) : Int) < 1 ↔ ¬(-2 ^ b ≤ n ∧ n < 2 ^ b)) := fun h => by rw [if_neg h] at key; exact key
  clear key
  have e5 : IntKind.i64.wrap (1 + lenU (sizeOf' n).toNat) = 1 + lenU (sizeOf' n).toNat := wrap64_id _ (by omega) (by omega)
  by_cases hr : -2 ^ b ≤ n ∧ n < 2 ^ b
  all_goals (first | rw [if_pos hr] at hcall | rw [if_neg hr] at hcall)
  all_goals (by_cases hneg : n < 0)
  all_goals (first | rw [show sizeOf' n = -1 - n from by unfold sizeOf'; rw [if_pos hneg]] at * | rw [show sizeOf' n = n from by unfold sizeOf'; rw [if_neg hneg]] at *)
  all_goals (simp only [hr, not_true_eq_false, not_false_eq_true, iff_false, iff_true, and_self] at kA kB)
  all_goals refine AC.enter Try.func6 rfl (Nat.le_of_ble_eq_true rfl) ?_
  all_goals simp only [Try.f6]
  all_goals (
    repeat' (first
      | refine AW.seq ?_
      | refine AW.block ?_
      | refine AW.region ?_
      | (refine AW.skip ?_; (try simp only [thenQ, blockQ, ↓reduceIte, Nat.reduceEqDiff]))
      | (refine AW.ret ?_; (try simp only [thenQ, blockQ, ↓reduceIte, Nat.reduceEqDiff]))
      | (refine AW.exit ?_; (try simp only [thenQ, blockQ, ↓reduceIte, Nat.reduceEqDiff]))
      | (refine AWL.nil ?_; (try simp only [thenQ, blockQ, ↓reduceIte, Nat.reduceEqDiff]))
      | (refine DQ.nil ?_; (try simp only [thenQ, blockQ, ↓reduceIte, Nat.reduceEqDiff]))
      | ((first
        | (refine AWL.op (sl := SL) rfl rfl ?_ ?_)
        | (refine DQ.op rfl rfl rfl rfl rfl ?_ ?_)
        | (refine DQ.yes rfl ?_ ?_)
        | (refine DQ.step rfl rfl rfl rfl (QStep.assign rfl) ?_)
        | (refine AWL.frzA rfl rfl ?_)
        | (refine AWL.callV (f := 10) rfl rfl rfl rfl ?_ (Nat.le_of_ble_eq_true rfl) rfl (awake_ok) ?_; (focus kernel_rfl))
        | (refine AWL.call (f := 10) rfl rfl rfl ?_ rfl (Nat.le_of_ble_eq_true rfl) rfl (awake_ok) ?_; (focus kernel_rfl))
        | (refine CWr.call (f := 10) rfl ?_ rfl (awake_ok) (fun _ _ h => h) ?_ ?_ ?_; (focus kernel_rfl))
        | (refine DQ.step rfl rfl rfl rfl (QStep.call (f := 10) rfl ?_ rfl (awake_ok) (fun _ _ h => h) (fun _ => rfl)) ?_; (focus kernel_rfl))
        | (refine DQ.yesC (QStep.call (f := 10) rfl ?_ rfl (awake_ok) (fun _ _ h => h) (fun _ => rfl)) ?_; (focus kernel_rfl))
        | (refine AWL.callV (f := 17) rfl rfl rfl rfl ?_ (Nat.le_of_ble_eq_true rfl) rfl (ps_one n hn) ?_; (focus kernel_rfl))
        | (refine AWL.call (f := 17) rfl rfl rfl ?_ rfl (Nat.le_of_ble_eq_true rfl) rfl (ps_one n hn) ?_; (focus kernel_rfl))
        | (refine CWr.call (f := 17) rfl ?_ rfl (ps_one n hn) (fun _ _ h => h) ?_ ?_ ?_; (focus kernel_rfl))
        | (refine DQ.step rfl rfl rfl rfl (QStep.call (f := 17) rfl ?_ rfl (ps_one n hn) (fun _ _ h => h) (fun _ => rfl)) ?_; (focus kernel_rfl))
        | (refine DQ.yesC (QStep.call (f := 17) rfl ?_ rfl (ps_one n hn) (fun _ _ h => h) (fun _ => rfl)) ?_; (focus kernel_rfl))
        | (refine AWL.callV (f := 13) rfl rfl rfl rfl ?_ (Nat.le_of_ble_eq_true rfl) rfl (hcall) ?_; (focus kernel_rfl))
        | (refine AWL.call (f := 13) rfl rfl rfl ?_ rfl (Nat.le_of_ble_eq_true rfl) rfl (hcall) ?_; (focus kernel_rfl))
        | (refine CWr.call (f := 13) rfl ?_ rfl (hcall) (fun _ _ h => h) ?_ ?_ ?_; (focus kernel_rfl))
        | (refine DQ.step rfl rfl rfl rfl (QStep.call (f := 13) rfl ?_ rfl (hcall) (fun _ _ h => h) (fun _ => rfl)) ?_; (focus kernel_rfl))
        | (refine DQ.yesC (QStep.call (f := 13) rfl ?_ rfl (hcall) (fun _ _ h => h) (fun _ => rfl)) ?_; (focus kernel_rfl))
        | (refine AWL.callV (f := 19) rfl rfl rfl rfl ?_ (Nat.le_of_ble_eq_true rfl) rfl (hsz) ?_; (focus kernel_rfl))
        | (refine AWL.call (f := 19) rfl rfl rfl ?_ rfl (Nat.le_of_ble_eq_true rfl) rfl (hsz) ?_; (focus kernel_rfl))
        | (refine CWr.call (f := 19) rfl ?_ rfl (hsz) (fun _ _ h => h) ?_ ?_ ?_; (focus kernel_rfl))
        | (refine DQ.step rfl rfl rfl rfl (QStep.call (f := 19) rfl ?_ rfl (hsz) (fun _ _ h => h) (fun _ => rfl)) ?_; (focus kernel_rfl))
        | (refine DQ.yesC (QStep.call (f := 19) rfl ?_ rfl (hsz) (fun _ _ h => h) (fun _ => rfl)) ?_; (focus kernel_rfl))
        | fail) <;> (first | ((first | show AWL _ _ _ _ _ | show DQ _ _ _ _ _ _ | show AW _ _ _ _ | (rintro _ _ ⟨rfl, rfl⟩; (try refine And.intro rfl ?_))); (try simp (disch := omega) only [NS, Nat.reduceBEq, Nat.reduceAdd, Nat.reduceMul, TY, slx, hT, e1, e2, e5, beq_self_eq_true])) | (focus ((first | exact trivial | omega | exact ld_nums i3 _ _ (by first | assumption | omega | (simp only [List.length_append]; omega)) | exact ld_nums i5 _ _ (by first | assumption | omega | (simp only [List.length_append]; omega)) | exact ld_nums i24 _ _ (by first | assumption | omega | (simp only [List.length_append]; omega)) | (show _ ≤ _; omega) | (simp only [List.length_take, List.length_drop, List.length_append, List.length_cons, List.length_nil]; omega) | ((repeat' (first | exact trivial | exact rfl | exact Nat.le_of_ble_eq_true rfl | refine And.intro ?_ ?_ | fail)); done) | ((try simp (disch := omega) only [NS, Nat.reduceBEq, Nat.reduceAdd, Nat.reduceMul, TY, slx, hT, e1, e2, e5, beq_self_eq_true]); (repeat' (first | exact trivial | exact rfl | exact ⟨_, _, rfl⟩ | exact ⟨_, rfl⟩ | exact Nat.le_of_ble_eq_true rfl | exact Nat.zero_lt_succ _ | omega | refine And.intro ?_ ?_ | fail)); done)); done))))
      | (refine AWL.guard2 rfl rfl rfl rfl rfl rfl ?_ ?_ <;> (intro hc; (try simp only [Bool.not_true, Bool.not_false] at hc); first | (cases hc; done) | ((try simp only [hc]); (try simp only [beq_iff_eq, bne_iff_ne, decide_eq_true_eq, decide_eq_false_iff_not, beq_eq_false_iff_ne, bne_eq_false_iff_eq, ne_eq, Bool.not_eq_true, Bool.not_eq_false, Bool.not_eq_eq_eq_not, Bool.not_true, Bool.not_false, Decidable.not_not, Int.not_lt, Int.not_le] at hc); (try (exfalso; omega)); (try (guard_hyp hc : True; clear hc)))))
      | (refine AWL.guard2 rfl rfl rfl rfl rfl rfl (fun hc => ?_) ?_; (cases hc; done))
      | (refine AW.drawn false hmix ?_ ?_; (focus kernel_rfl))
      | (refine AWL.guardU rfl rfl rfl rfl rfl rfl ?_; (try simp (disch := omega) only [NS, Nat.reduceBEq, Nat.reduceAdd, Nat.reduceMul, TY, slx, hT, e1, e2, e5, beq_self_eq_true]))
      | (refine DQ.guardU rfl rfl rfl rfl rfl rfl rfl ?_; (try simp (disch := omega) only [NS, Nat.reduceBEq, Nat.reduceAdd, Nat.reduceMul, TY, slx, hT, e1, e2, e5, beq_self_eq_true]))
      | refine DQ.tail rfl ?_
      | (refine DQ.guard2 rfl rfl rfl rfl rfl rfl rfl ?_ ?_ <;> (intro hc; (try simp only [Bool.not_true, Bool.not_false] at hc); first | (cases hc; done) | ((try simp only [hc]); (try simp only [beq_iff_eq, bne_iff_ne, decide_eq_true_eq, decide_eq_false_iff_not, beq_eq_false_iff_ne, bne_eq_false_iff_eq, ne_eq, Bool.not_eq_true, Bool.not_eq_false, Bool.not_eq_eq_eq_not, Bool.not_true, Bool.not_false, Decidable.not_not, Int.not_lt, Int.not_le] at hc); (try (exfalso; omega)); (try (guard_hyp hc : True; clear hc)))))
      | (refine AW.cond rfl (fun hc => ?_) (fun hc => ?_) <;> first | (cases hc; done) | ((try simp only [beq_iff_eq, bne_iff_ne, decide_eq_true_eq, decide_eq_false_iff_not, beq_eq_false_iff_ne, bne_eq_false_iff_eq, ne_eq, Bool.not_eq_true, Bool.not_eq_false, Bool.not_eq_eq_eq_not, Bool.not_true, Bool.not_false, Decidable.not_not, Int.not_lt, Int.not_le] at hc); (try (exfalso; omega)); (try (guard_hyp hc : True; clear hc))))
      | (refine EndQ.mk rfl rfl rfl ?_ ?_ ?_; (focus (first | exact Or.inl rfl | exact Or.inr rfl)); (focus ((first | exact trivial | omega | exact ld_nums i3 _ _ (by first | assumption | omega | (simp only [List.length_append]; omega)) | exact ld_nums i5 _ _ (by first | assumption | omega | (simp only [List.length_append]; omega)) | exact ld_nums i24 _ _ (by first | assumption | omega | (simp only [List.length_append]; omega)) | (show _ ≤ _; omega) | (simp only [List.length_take, List.length_drop, List.length_append, List.length_cons, List.length_nil]; omega) | ((repeat' (first | exact trivial | exact rfl | exact Nat.le_of_ble_eq_true rfl | refine And.intro ?_ ?_ | fail)); done) | ((try simp (disch := omega) only [NS, Nat.reduceBEq, Nat.reduceAdd, Nat.reduceMul, TY, slx, hT, e1, e2, e5, beq_self_eq_true]); (repeat' (first | exact trivial | exact rfl | exact ⟨_, _, rfl⟩ | exact ⟨_, rfl⟩ | exact Nat.le_of_ble_eq_true rfl | exact Nat.zero_lt_succ _ | omega | refine And.intro ?_ ?_ | fail)); done)); done)); (try simp (disch := omega) only [NS, Nat.reduceBEq, Nat.reduceAdd, Nat.reduceMul, TY, slx, hT, e1, e2, e5, beq_self_eq_true]))
      | fail)
    all_goals first | exact ⟨trivial, trivial⟩ | exact ⟨rfl, trivial⟩ | (exfalso; omega) | (exfalso; have := kA (by omega); omega) | (exfalso; have := kB (by omega); omega) | trace_state)
end Go.Proofs.Yticidhkilfkgbaa
