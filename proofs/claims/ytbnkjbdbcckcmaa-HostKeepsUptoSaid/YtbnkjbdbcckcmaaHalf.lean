/- pair.half. -/
import Derived.Test.YtbnkjbdbcckcmaaV5
import Derived.Test.YtbnkjbdbcckcmaaPre
namespace Go.Proofs.Ytbnkjbdbcckcmaa
set_option linter.unusedSimpArgs false
set_option linter.unusedVariables false
open Go Go.Abs
attribute [local irreducible] AW AWL AC FW CW CWr IntKind.wrap

def S33 (l : List Int) (x i : Int) : St := { n := 22, slots := [(3, .int .u64 x), (6, .view l.length 1 (nums .u8 l)), (7, .int .i64 l.length), (8, .int .i64 i)], mem := [] }
theorem shl8 {c : Int} {k : Nat} (hc : byte c) (hk : k < 8) : IntKind.u64.wrap (c * 2 ^ min (8 * (k : Int)).toNat IntKind.u64.bits) = c * 2 ^ (8 * k) := by
  have e : min (8 * (k : Int)).toNat IntKind.u64.bits = 8 * k := by rw [Nat.min_eq_left (by show _ ≤ 64; omega)]; omega
  rw [e]
  unfold byte at hc
  have hp : (0 : Int) < 2 ^ (8 * k) := Int.pow_pos (by decide)
  have h1 : c * 2 ^ (8 * k) ≤ 255 * 2 ^ (8 * k) := Int.mul_le_mul_of_nonneg_right hc.2 (by omega)
  have h2 : (2 : Int) ^ (8 * (k + 1)) ≤ 2 ^ 64 := by exact_mod_cast Nat.pow_le_pow_right (by decide) (by omega)
  rw [pow8] at h2
  exact wrap_in rfl (Int.mul_nonneg hc.1 (by omega)) (by show _ < (2 : Int) ^ 64; omega)
theorem or8 {x c : Int} {k : Nat} (hx : 0 ≤ x ∧ x < 2 ^ (8 * k)) (hc : byte c) (hk : k < 8) : bitsOp .or .u64 x (c * 2 ^ (8 * k)) = x + c * 2 ^ (8 * k) := by
  unfold byte at hc
  have hp : (0 : Int) < 2 ^ (8 * k) := Int.pow_pos (by decide)
  have h1 : c * 2 ^ (8 * k) ≤ 255 * 2 ^ (8 * k) := Int.mul_le_mul_of_nonneg_right hc.2 (by omega)
  have h2 : (2 : Int) ^ (8 * (k + 1)) ≤ 2 ^ 64 := by exact_mod_cast Nat.pow_le_pow_right (by decide) (by omega)
  rw [pow8] at h2
  exact or_add (k := .u64) (8 * k) hx.1 hx.2 hc.1 (by show _ < (2 : Int) ^ 64; omega) (.inl rfl)
set_option maxHeartbeats 800000 in
theorem half_ok (l : List Int) (hb : bytes l) (hl : l.length ≤ 8) : AC Try.prog 37 [.view l.length 1 (nums .u8 l)] (fun r m => r = .int .u64 (le l) ∧ m = []) := by
  refine AC.enter Try.func37 rfl (Nat.le_of_ble_eq_true rfl) ?_
  simp only [Try.f37]
  have hchk : True := by simp only [TY, SLS, List.set_cons_zero, List.set_cons_succ, take16, drop16, dz, nums_length, S33]
  repeat' (first
    | (refine AWL.opN (sl := SL) rfl rfl rfl trivial ?_; (try (conv => arg -1; simp (disch := omega) only [NSX, Nat.reduceBEq, Nat.reduceAdd, Nat.reduceMul, Int.reduceToNat, Nat.reduceSub, TY, SLS, List.set_cons_zero, List.set_cons_succ, take16, drop16, dz, nums_length, S33])))
    | (refine AW.seqQ ?_; intro Qn hQn)
    | (refine AW.blockQ ?_; intro Qn hQn)
    | refine AW.region ?_
    | ((first | refine AW.skip ?_ | refine AW.ret ?_ | refine AW.exit ?_ | refine AWL.nil ?_ | refine CW.nil ?_); (repeat (first | refine QEq.mp (by assumption) ?_ | simp only [thenQ, Go.Abs.blockQ, ↓reduceIte, Nat.reduceEqDiff])))
    | refine FW.nil ?_
    | refine FW.pass rfl rfl ?_
    | refine FW.go rfl ?_
    | refine CW.skip rfl rfl ?_
    | refine CW.step rfl rfl rfl rfl rfl ?_
    | ((first
      | (refine AWL.boxF (t := 77) rfl rfl rfl rfl rfl ?_)
      | (refine AWL.allocF (t := 77) rfl rfl rfl rfl rfl rfl ?_)
      | (refine CWr.allocF (t := 77) rfl rfl rfl ?_ ?_)
      | (refine AWL.op (sl := SL) rfl rfl ?_ ?_)
      | (refine FW.float rfl rfl rfl rfl rfl ?_)
      | (refine CWr.op rfl ?_ ?_ ?_)
      | (refine CWr.assign rfl ?_ ?_)
      | (refine CWr.alloc rfl rfl rfl rfl ?_)
      | (refine CWr.build rfl rfl rfl rfl ?_ rfl rfl rfl ?_)
      | fail) <;> (try ((first | show AWL _ _ _ _ _ | show AW _ _ _ _ | show FW _ _ _ _ _ _ _ _ _ _ | show CW _ _ _ _ _ _ _ _ _ _ _ _ | (rintro _ _ ⟨rfl, rfl⟩; (try refine And.intro rfl ?_))); (try (conv => arg -1; simp (disch := omega) only [NSX, Nat.reduceBEq, Nat.reduceAdd, Nat.reduceMul, Int.reduceToNat, Nat.reduceSub, TY, SLS, List.set_cons_zero, List.set_cons_succ, take16, drop16, dz, nums_length, S33])))))
    | ((first | refine AWL.guard2 rfl rfl rfl rfl rfl rfl ?_ ?_ | refine CW.guard2 rfl rfl rfl rfl rfl rfl rfl rfl ?_ ?_) <;> (intro hc; (try simp only [Bool.not_true, Bool.not_false] at hc); first | (cases hc; done) | ((try simp only [hc]); (try simp only [beq_iff_eq, bne_iff_ne, decide_eq_true_eq, decide_eq_false_iff_not, beq_eq_false_iff_ne, bne_eq_false_iff_eq, ne_eq, Bool.not_eq_true, Bool.not_eq_false, Bool.not_eq_eq_eq_not, Bool.not_true, Bool.not_false, Decidable.not_not, Int.not_lt, Int.not_le] at hc); (try (exfalso; omega)); (try (guard_hyp hc : True; clear hc)))))
    | (refine AWL.guard2 rfl rfl rfl rfl rfl rfl (fun hc => ?_) ?_; (cases hc; done))
    | ((first | ((show AW _ (.region _ _ true) _ _); refine AW.calm false [] [] hmix (by (repeat' (first | exact panOk_end | exact panOk_endM | refine panOk_then ?_ | refine panOk_block ?_ | refine QEq.pan (by assumption) ?_))) ?_ rfl ?_; (focus (as_aux_lemma => kernel_rfl))) | refine AWL.guardU rfl rfl rfl rfl rfl rfl ?_ | refine CW.guardU rfl rfl rfl rfl rfl rfl rfl rfl ?_); (try (conv => arg -1; simp (disch := omega) only [NSX, Nat.reduceBEq, Nat.reduceAdd, Nat.reduceMul, Int.reduceToNat, Nat.reduceSub, TY, SLS, List.set_cons_zero, List.set_cons_succ, take16, drop16, dz, nums_length, S33])))
    | refine CW.tail rfl ?_
    | (refine AW.cond rfl (fun hc => ?_) (fun hc => ?_) <;> first | (cases hc; done) | ((try simp only [beq_iff_eq, bne_iff_ne, decide_eq_true_eq, decide_eq_false_iff_not, beq_eq_false_iff_ne, bne_eq_false_iff_eq, ne_eq, Bool.not_eq_true, Bool.not_eq_false, Bool.not_eq_eq_eq_not, Bool.not_true, Bool.not_false, Decidable.not_not, Int.not_lt, Int.not_le] at hc); (try (exfalso; omega)); (try (guard_hyp hc : True; clear hc))))
    | ((refine EndQ.mk rfl rfl rfl ?_ ?_ ?_; (focus (first | exact Or.inl rfl | exact Or.inr rfl))) <;> (try simp (disch := omega) only [NSX, Nat.reduceBEq, Nat.reduceAdd, Nat.reduceMul, Int.reduceToNat, Nat.reduceSub, TY, SLS, List.set_cons_zero, List.set_cons_succ, take16, drop16, dz, nums_length, S33]))
    | (focus ((first | exact trivial | omega | (refine And.intro (by kernel_rfl) (And.intro ⟨_, (by first | exact nums_ints _ _ | rfl), (by first | exact nums_ints _ _ | rfl)⟩ (And.intro ?_ ?_)) <;> (first | rfl | assumption | (simp only [nums_length]; omega) | omega)) | (refine And.intro ?_ (And.intro ?_ ?_); (focus kernel_rfl); (focus kernel_rfl); (focus kernel_rfl)) | ((show newKs _ _ _ = true); kernel_rfl) | ((show FitV _ _ _ _ _ _); (repeat' (first | exact trivial | exact Or.inr (Or.inl rfl) | exact Or.inl rfl | exact Or.inr (Or.inr rfl) | refine And.intro ?_ ?_)); done) | assumption | ((first | refine ld_nums i3 _ _ ?_ | refine ld_nums i35 _ _ ?_ | refine ld_nums i5 _ _ ?_ | refine at_nums i3 _ _ ?_ | refine at_nums i35 _ _ ?_ | refine at_nums i5 _ _ ?_); first | assumption | omega | (simp only [List.length_append]; omega)) | (show _ ≤ _; omega) | (simp only [List.length_take, List.length_drop, List.length_append, List.length_cons, List.length_nil]; omega) | ((repeat' (first | exact trivial | exact rfl | exact Nat.le_of_ble_eq_true rfl | refine And.intro ?_ ?_ | fail)); done) | ((try simp (disch := omega) only [NSX, Nat.reduceBEq, Nat.reduceAdd, Nat.reduceMul, Int.reduceToNat, Nat.reduceSub, TY, SLS, List.set_cons_zero, List.set_cons_succ, take16, drop16, dz, nums_length, S33]); (repeat' (first | exact trivial | exact rfl | exact ⟨_, _, rfl⟩ | exact ⟨_, rfl⟩ | exact Nat.le_of_ble_eq_true rfl | exact Nat.zero_lt_succ _ | omega | (simp only [nums_length, toB_len] at *; omega) | refine And.intro ?_ ?_ | fail)); done)); done))
    | fail)
  refine AW.loop [3, 6, 7, 8] [] (fun n st => ∃ (k : Nat), st = S33 l (le (l.take k)) k ∧ k ≤ l.length ∧ n = l.length - k) ?_ ?_
  · exact ⟨_, 0, rfl, Nat.zero_le _, rfl⟩
  · rintro n st ⟨k, rfl, hk, rfl⟩
    by_cases hkl : k < l.length
    · have hc := bytes_at hb hkl
      have hx := le_bound (bytes_take hb k)
      rw [List.length_take, Nat.min_eq_left (by omega)] at hx
      have e1 := shl8 hc (by omega : k < 8)
      have e2 := or8 hx hc (by omega : k < 8)
      have e3 : IntKind.u64.wrap (l.getD k 0) = l.getD k 0 := by unfold byte at hc; exact wrap_in rfl hc.1 (by show _ < (18446744073709551616 : Int); omega)
      have e4 : IntKind.i64.wrap (8 * (k : Int)) = 8 * k := wrap64_id _ (by omega) (by omega)
      have e5 : IntKind.i64.wrap ((k : Int) + 1) = k + 1 := wrap64_id _ (by omega) (by omega)
      have hchk : True := by simp only [TY, SLS, List.set_cons_zero, List.set_cons_succ, take16, drop16, dz, nums_length, S33, e1, e2, e3, e4, e5]
      repeat' (first
        | (refine AWL.opN (sl := SL) rfl rfl rfl trivial ?_; (try (conv => arg -1; simp (disch := omega) only [NSX, Nat.reduceBEq, Nat.reduceAdd, Nat.reduceMul, Int.reduceToNat, Nat.reduceSub, TY, SLS, List.set_cons_zero, List.set_cons_succ, take16, drop16, dz, nums_length, S33, e1, e2, e3, e4, e5])))
        | (refine AW.seqQ ?_; intro Qn hQn)
        | (refine AW.blockQ ?_; intro Qn hQn)
        | refine AW.region ?_
        | ((first | refine AW.skip ?_ | refine AW.ret ?_ | refine AW.exit ?_ | refine AWL.nil ?_ | refine CW.nil ?_); (repeat (first | refine QEq.mp (by assumption) ?_ | simp only [thenQ, Go.Abs.blockQ, ↓reduceIte, Nat.reduceEqDiff])))
        | refine FW.nil ?_
        | refine FW.pass rfl rfl ?_
        | refine FW.go rfl ?_
        | refine CW.skip rfl rfl ?_
        | refine CW.step rfl rfl rfl rfl rfl ?_
        | ((first
          | (refine AWL.boxF (t := 77) rfl rfl rfl rfl rfl ?_)
          | (refine AWL.allocF (t := 77) rfl rfl rfl rfl rfl rfl ?_)
          | (refine CWr.allocF (t := 77) rfl rfl rfl ?_ ?_)
          | (refine AWL.op (sl := SL) rfl rfl ?_ ?_)
          | (refine FW.float rfl rfl rfl rfl rfl ?_)
          | (refine CWr.op rfl ?_ ?_ ?_)
          | (refine CWr.assign rfl ?_ ?_)
          | (refine CWr.alloc rfl rfl rfl rfl ?_)
          | (refine CWr.build rfl rfl rfl rfl ?_ rfl rfl rfl ?_)
          | fail) <;> (try ((first | show AWL _ _ _ _ _ | show AW _ _ _ _ | show FW _ _ _ _ _ _ _ _ _ _ | show CW _ _ _ _ _ _ _ _ _ _ _ _ | (rintro _ _ ⟨rfl, rfl⟩; (try refine And.intro rfl ?_))); (try (conv => arg -1; simp (disch := omega) only [NSX, Nat.reduceBEq, Nat.reduceAdd, Nat.reduceMul, Int.reduceToNat, Nat.reduceSub, TY, SLS, List.set_cons_zero, List.set_cons_succ, take16, drop16, dz, nums_length, S33, e1, e2, e3, e4, e5])))))
        | ((first | refine AWL.guard2 rfl rfl rfl rfl rfl rfl ?_ ?_ | refine CW.guard2 rfl rfl rfl rfl rfl rfl rfl rfl ?_ ?_) <;> (intro hc; (try simp only [Bool.not_true, Bool.not_false] at hc); first | (cases hc; done) | ((try simp only [hc]); (try simp only [beq_iff_eq, bne_iff_ne, decide_eq_true_eq, decide_eq_false_iff_not, beq_eq_false_iff_ne, bne_eq_false_iff_eq, ne_eq, Bool.not_eq_true, Bool.not_eq_false, Bool.not_eq_eq_eq_not, Bool.not_true, Bool.not_false, Decidable.not_not, Int.not_lt, Int.not_le] at hc); (try (exfalso; omega)); (try (guard_hyp hc : True; clear hc)))))
        | (refine AWL.guard2 rfl rfl rfl rfl rfl rfl (fun hc => ?_) ?_; (cases hc; done))
        | ((first | ((show AW _ (.region _ _ true) _ _); refine AW.calm false [] [] hmix (by (repeat' (first | exact panOk_end | exact panOk_endM | refine panOk_then ?_ | refine panOk_block ?_ | refine QEq.pan (by assumption) ?_))) ?_ rfl ?_; (focus (as_aux_lemma => kernel_rfl))) | refine AWL.guardU rfl rfl rfl rfl rfl rfl ?_ | refine CW.guardU rfl rfl rfl rfl rfl rfl rfl rfl ?_); (try (conv => arg -1; simp (disch := omega) only [NSX, Nat.reduceBEq, Nat.reduceAdd, Nat.reduceMul, Int.reduceToNat, Nat.reduceSub, TY, SLS, List.set_cons_zero, List.set_cons_succ, take16, drop16, dz, nums_length, S33, e1, e2, e3, e4, e5])))
        | refine CW.tail rfl ?_
        | (refine AW.cond rfl (fun hc => ?_) (fun hc => ?_) <;> first | (cases hc; done) | ((try simp only [beq_iff_eq, bne_iff_ne, decide_eq_true_eq, decide_eq_false_iff_not, beq_eq_false_iff_ne, bne_eq_false_iff_eq, ne_eq, Bool.not_eq_true, Bool.not_eq_false, Bool.not_eq_eq_eq_not, Bool.not_true, Bool.not_false, Decidable.not_not, Int.not_lt, Int.not_le] at hc); (try (exfalso; omega)); (try (guard_hyp hc : True; clear hc))))
        | ((refine EndQ.mk rfl rfl rfl ?_ ?_ ?_; (focus (first | exact Or.inl rfl | exact Or.inr rfl))) <;> (try simp (disch := omega) only [NSX, Nat.reduceBEq, Nat.reduceAdd, Nat.reduceMul, Int.reduceToNat, Nat.reduceSub, TY, SLS, List.set_cons_zero, List.set_cons_succ, take16, drop16, dz, nums_length, S33, e1, e2, e3, e4, e5]))
        | (focus ((first | exact trivial | omega | (refine And.intro (by kernel_rfl) (And.intro ⟨_, (by first | exact nums_ints _ _ | rfl), (by first | exact nums_ints _ _ | rfl)⟩ (And.intro ?_ ?_)) <;> (first | rfl | assumption | (simp only [nums_length]; omega) | omega)) | (refine And.intro ?_ (And.intro ?_ ?_); (focus kernel_rfl); (focus kernel_rfl); (focus kernel_rfl)) | ((show newKs _ _ _ = true); kernel_rfl) | ((show FitV _ _ _ _ _ _); (repeat' (first | exact trivial | exact Or.inr (Or.inl rfl) | exact Or.inl rfl | exact Or.inr (Or.inr rfl) | refine And.intro ?_ ?_)); done) | assumption | ((first | refine ld_nums i3 _ _ ?_ | refine ld_nums i35 _ _ ?_ | refine ld_nums i5 _ _ ?_ | refine at_nums i3 _ _ ?_ | refine at_nums i35 _ _ ?_ | refine at_nums i5 _ _ ?_); first | assumption | omega | (simp only [List.length_append]; omega)) | (show _ ≤ _; omega) | (simp only [List.length_take, List.length_drop, List.length_append, List.length_cons, List.length_nil]; omega) | ((repeat' (first | exact trivial | exact rfl | exact Nat.le_of_ble_eq_true rfl | refine And.intro ?_ ?_ | fail)); done) | ((try simp (disch := omega) only [NSX, Nat.reduceBEq, Nat.reduceAdd, Nat.reduceMul, Int.reduceToNat, Nat.reduceSub, TY, SLS, List.set_cons_zero, List.set_cons_succ, take16, drop16, dz, nums_length, S33, e1, e2, e3, e4, e5]); (repeat' (first | exact trivial | exact rfl | exact ⟨_, _, rfl⟩ | exact ⟨_, rfl⟩ | exact Nat.le_of_ble_eq_true rfl | exact Nat.zero_lt_succ _ | omega | (simp only [nums_length, toB_len] at *; omega) | refine And.intro ?_ ?_ | fail)); done)); done))
        | fail)
      all_goals try simp (disch := omega) only [NSX, Nat.reduceBEq, Nat.reduceAdd, Nat.reduceMul, Int.reduceToNat, Nat.reduceSub, TY, SLS, List.set_cons_zero, List.set_cons_succ, take16, drop16, dz, nums_length, S33, e1, e2, e3, e4, e5]
      all_goals first
        | exact ⟨l.length - (k + 1), by omega, k + 1, by rw [le_take hkl]; rfl, by omega, rfl⟩
        | trace_state
    · have hchk : True := by simp only [TY, SLS, List.set_cons_zero, List.set_cons_succ, take16, drop16, dz, nums_length, S33]
      repeat' (first
        | (refine AWL.opN (sl := SL) rfl rfl rfl trivial ?_; (try (conv => arg -1; simp (disch := omega) only [NSX, Nat.reduceBEq, Nat.reduceAdd, Nat.reduceMul, Int.reduceToNat, Nat.reduceSub, TY, SLS, List.set_cons_zero, List.set_cons_succ, take16, drop16, dz, nums_length, S33])))
        | (refine AW.seqQ ?_; intro Qn hQn)
        | (refine AW.blockQ ?_; intro Qn hQn)
        | refine AW.region ?_
        | ((first | refine AW.skip ?_ | refine AW.ret ?_ | refine AW.exit ?_ | refine AWL.nil ?_ | refine CW.nil ?_); (repeat (first | refine QEq.mp (by assumption) ?_ | simp only [thenQ, Go.Abs.blockQ, ↓reduceIte, Nat.reduceEqDiff])))
        | refine FW.nil ?_
        | refine FW.pass rfl rfl ?_
        | refine FW.go rfl ?_
        | refine CW.skip rfl rfl ?_
        | refine CW.step rfl rfl rfl rfl rfl ?_
        | ((first
          | (refine AWL.boxF (t := 77) rfl rfl rfl rfl rfl ?_)
          | (refine AWL.allocF (t := 77) rfl rfl rfl rfl rfl rfl ?_)
          | (refine CWr.allocF (t := 77) rfl rfl rfl ?_ ?_)
          | (refine AWL.op (sl := SL) rfl rfl ?_ ?_)
          | (refine FW.float rfl rfl rfl rfl rfl ?_)
          | (refine CWr.op rfl ?_ ?_ ?_)
          | (refine CWr.assign rfl ?_ ?_)
          | (refine CWr.alloc rfl rfl rfl rfl ?_)
          | (refine CWr.build rfl rfl rfl rfl ?_ rfl rfl rfl ?_)
          | fail) <;> (try ((first | show AWL _ _ _ _ _ | show AW _ _ _ _ | show FW _ _ _ _ _ _ _ _ _ _ | show CW _ _ _ _ _ _ _ _ _ _ _ _ | (rintro _ _ ⟨rfl, rfl⟩; (try refine And.intro rfl ?_))); (try (conv => arg -1; simp (disch := omega) only [NSX, Nat.reduceBEq, Nat.reduceAdd, Nat.reduceMul, Int.reduceToNat, Nat.reduceSub, TY, SLS, List.set_cons_zero, List.set_cons_succ, take16, drop16, dz, nums_length, S33])))))
        | ((first | refine AWL.guard2 rfl rfl rfl rfl rfl rfl ?_ ?_ | refine CW.guard2 rfl rfl rfl rfl rfl rfl rfl rfl ?_ ?_) <;> (intro hc; (try simp only [Bool.not_true, Bool.not_false] at hc); first | (cases hc; done) | ((try simp only [hc]); (try simp only [beq_iff_eq, bne_iff_ne, decide_eq_true_eq, decide_eq_false_iff_not, beq_eq_false_iff_ne, bne_eq_false_iff_eq, ne_eq, Bool.not_eq_true, Bool.not_eq_false, Bool.not_eq_eq_eq_not, Bool.not_true, Bool.not_false, Decidable.not_not, Int.not_lt, Int.not_le] at hc); (try (exfalso; omega)); (try (guard_hyp hc : True; clear hc)))))
        | (refine AWL.guard2 rfl rfl rfl rfl rfl rfl (fun hc => ?_) ?_; (cases hc; done))
        | ((first | ((show AW _ (.region _ _ true) _ _); refine AW.calm false [] [] hmix (by (repeat' (first | exact panOk_end | exact panOk_endM | refine panOk_then ?_ | refine panOk_block ?_ | refine QEq.pan (by assumption) ?_))) ?_ rfl ?_; (focus (as_aux_lemma => kernel_rfl))) | refine AWL.guardU rfl rfl rfl rfl rfl rfl ?_ | refine CW.guardU rfl rfl rfl rfl rfl rfl rfl rfl ?_); (try (conv => arg -1; simp (disch := omega) only [NSX, Nat.reduceBEq, Nat.reduceAdd, Nat.reduceMul, Int.reduceToNat, Nat.reduceSub, TY, SLS, List.set_cons_zero, List.set_cons_succ, take16, drop16, dz, nums_length, S33])))
        | refine CW.tail rfl ?_
        | (refine AW.cond rfl (fun hc => ?_) (fun hc => ?_) <;> first | (cases hc; done) | ((try simp only [beq_iff_eq, bne_iff_ne, decide_eq_true_eq, decide_eq_false_iff_not, beq_eq_false_iff_ne, bne_eq_false_iff_eq, ne_eq, Bool.not_eq_true, Bool.not_eq_false, Bool.not_eq_eq_eq_not, Bool.not_true, Bool.not_false, Decidable.not_not, Int.not_lt, Int.not_le] at hc); (try (exfalso; omega)); (try (guard_hyp hc : True; clear hc))))
        | ((refine EndQ.mk rfl rfl rfl ?_ ?_ ?_; (focus (first | exact Or.inl rfl | exact Or.inr rfl))) <;> (try simp (disch := omega) only [NSX, Nat.reduceBEq, Nat.reduceAdd, Nat.reduceMul, Int.reduceToNat, Nat.reduceSub, TY, SLS, List.set_cons_zero, List.set_cons_succ, take16, drop16, dz, nums_length, S33]))
        | (focus ((first | exact trivial | omega | (refine And.intro (by kernel_rfl) (And.intro ⟨_, (by first | exact nums_ints _ _ | rfl), (by first | exact nums_ints _ _ | rfl)⟩ (And.intro ?_ ?_)) <;> (first | rfl | assumption | (simp only [nums_length]; omega) | omega)) | (refine And.intro ?_ (And.intro ?_ ?_); (focus kernel_rfl); (focus kernel_rfl); (focus kernel_rfl)) | ((show newKs _ _ _ = true); kernel_rfl) | ((show FitV _ _ _ _ _ _); (repeat' (first | exact trivial | exact Or.inr (Or.inl rfl) | exact Or.inl rfl | exact Or.inr (Or.inr rfl) | refine And.intro ?_ ?_)); done) | assumption | ((first | refine ld_nums i3 _ _ ?_ | refine ld_nums i35 _ _ ?_ | refine ld_nums i5 _ _ ?_ | refine at_nums i3 _ _ ?_ | refine at_nums i35 _ _ ?_ | refine at_nums i5 _ _ ?_); first | assumption | omega | (simp only [List.length_append]; omega)) | (show _ ≤ _; omega) | (simp only [List.length_take, List.length_drop, List.length_append, List.length_cons, List.length_nil]; omega) | ((repeat' (first | exact trivial | exact rfl | exact Nat.le_of_ble_eq_true rfl | refine And.intro ?_ ?_ | fail)); done) | ((try simp (disch := omega) only [NSX, Nat.reduceBEq, Nat.reduceAdd, Nat.reduceMul, Int.reduceToNat, Nat.reduceSub, TY, SLS, List.set_cons_zero, List.set_cons_succ, take16, drop16, dz, nums_length, S33]); (repeat' (first | exact trivial | exact rfl | exact ⟨_, _, rfl⟩ | exact ⟨_, rfl⟩ | exact Nat.le_of_ble_eq_true rfl | exact Nat.zero_lt_succ _ | omega | (simp only [nums_length, toB_len] at *; omega) | refine And.intro ?_ ?_ | fail)); done)); done))
        | fail)
      all_goals try simp (disch := omega) only [NSX, Nat.reduceBEq, Nat.reduceAdd, Nat.reduceMul, Int.reduceToNat, Nat.reduceSub, TY, SLS, List.set_cons_zero, List.set_cons_succ, take16, drop16, dz, nums_length, S33]
      · rw [List.take_of_length_le (by omega)]; exact ⟨rfl, trivial⟩
theorem half_at (n : Nat) (l : List Int) (hn : n = l.length) (hb : bytes l) (hl : l.length ≤ 8) : AC Try.prog 37 [.view n 1 (nums .u8 l)] (fun r m => r = .int .u64 (le l) ∧ m = []) := by
  subst hn; exact half_ok l hb hl
end Go.Proofs.Ytbnkjbdbcckcmaa
