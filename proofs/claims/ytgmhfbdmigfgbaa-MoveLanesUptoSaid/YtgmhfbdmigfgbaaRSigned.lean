/- the document's Sign, Signed. -/
import Derived.Test.YtgmhfbdmigfgbaaV5
import Derived.Test.YtgmhfbdmigfgbaaRGet
import Derived.Test.YtgmhfbdmigfgbaaSigned
namespace Go.Proofs.Ytgmhfbdmigfgbaa
set_option linter.unusedSimpArgs false
set_option linter.unusedVariables false
open Go Go.Abs
attribute [local irreducible] AW AWL AC FW CW CWr IntKind.wrap

set_option maxHeartbeats 1600000 in
theorem sign_ok (x : Int) (h0 : 0 ≤ x) (h1 : x < 2 ^ 64) (w : Int) (hw : lanes w ≠ 0) : AC Try.prog 35 [.int .u64 x, .int .i64 w] (fun r m => r = .int .i64 (sgn w x) ∧ m = []) := by
  have h1' : x < 18446744073709551616 := h1
  rcases lanes_pos hw with rfl | rfl | rfl | rfl
  · have e0 : IntKind.u64.wrap 8 = 8 := by decide +kernel
    have e00 : IntKind.u64.wrap (IntKind.i64.wrap (8 - 1)) = 7 := by decide +kernel
    have e1 : IntKind.u64.wrap (1 * 2 ^ min 8 IntKind.u64.bits) = 256 := by decide +kernel
    have e2 : IntKind.u64.wrap (1 * 2 ^ min 7 IntKind.u64.bits) = 128 := by decide +kernel
    have e3 : IntKind.i64.wrap (1 * 2 ^ min 8 IntKind.i64.bits) = 256 := by decide +kernel
    have e4 : x.tmod 256 = x % 256 := Int.tmod_eq_emod_of_nonneg h0
    have e5 : IntKind.i64.wrap (x % 256) = x % 256 := wrap64_id _ (by omega) (by omega)
    have e6 : IntKind.i64.wrap (x % 256 - 256) = x % 256 - 256 := wrap64_id _ (by omega) (by omega)
    have es : sgn 8 x = if x % 256 < 128 then x % 256 else x % 256 - 256 := rfl
    refine AC.enter Try.func35 rfl (Nat.le_of_ble_eq_true rfl) ?_
    simp only [Try.f35]
    have hchk : True := by simp only [TY, slx, take16, drop16, dz, nums_length, e0, e00, e1, e2, e3, e4, e5, e6]
    repeat' (first
      | (refine AWL.opN (sl := SL) rfl rfl rfl trivial ?_; (try (conv => arg -1; simp (disch := omega) only [NSX, Nat.reduceBEq, Nat.reduceAdd, Nat.reduceMul, Int.reduceToNat, Nat.reduceSub, TY, slx, take16, drop16, dz, nums_length, e0, e00, e1, e2, e3, e4, e5, e6])))
      | (refine AW.seqQ ?_; intro Qn hQn)
      | (refine AW.blockQ ?_; intro Qn hQn)
      | refine AW.region ?_
      | ((first | refine AW.skip ?_ | refine AW.ret ?_ | refine AW.exit ?_ | refine AWL.nil ?_ | refine CW.nil ?_); (repeat (first | refine QEq.mp (by assumption) ?_ | simp only [thenQ, Go.Abs.blockQ, ↓reduceIte, Nat.reduceEqDiff])))
      | refine FW.nil ?_
      | refine FW.pass rfl rfl ?_
      | refine FW.go rfl ?_
      | refine CW.skip rfl rfl ?_
      | refine CW.step rfl rfl rfl rfl rfl ?_
      | ((first
        | (refine AWL.boxF (t := 26) rfl rfl rfl rfl rfl ?_)
        | (refine AWL.allocF (t := 26) rfl rfl rfl rfl rfl rfl ?_)
        | (refine CWr.allocF (t := 26) rfl rfl rfl ?_ ?_)
        | (refine AWL.op (sl := SL) rfl rfl ?_ ?_)
        | (refine FW.float rfl rfl rfl rfl rfl ?_)
        | (refine CWr.op rfl ?_ ?_ ?_)
        | (refine CWr.assign rfl ?_ ?_)
        | (refine CWr.alloc rfl rfl rfl rfl ?_)
        | (refine CWr.build rfl rfl rfl rfl ?_ rfl rfl rfl ?_)
        | (refine AWL.frzA rfl rfl ?_)
        | (refine AWL.callV (f := 34) rfl rfl rfl rfl ?_ (Nat.le_of_ble_eq_true rfl) rfl (rlanes_ok _) ?_; (focus kernel_rfl))
        | (refine AWL.call (f := 34) rfl rfl rfl ?_ rfl (Nat.le_of_ble_eq_true rfl) rfl (rlanes_ok _) ?_; (focus kernel_rfl))
        | (refine CWr.call (f := 34) rfl ?_ rfl (rlanes_ok _) (fun _ _ h => h) ?_ ?_ ?_; (focus kernel_rfl))
        | (refine AWL.callV (f := 31) rfl rfl rfl rfl ?_ (Nat.le_of_ble_eq_true rfl) rfl (rget_ok _ hl hb _ _) ?_; (focus kernel_rfl))
        | (refine AWL.call (f := 31) rfl rfl rfl ?_ rfl (Nat.le_of_ble_eq_true rfl) rfl (rget_ok _ hl hb _ _) ?_; (focus kernel_rfl))
        | (refine CWr.call (f := 31) rfl ?_ rfl (rget_ok _ hl hb _ _) (fun _ _ h => h) ?_ ?_ ?_; (focus kernel_rfl))
        | (refine AWL.callV (f := 35) rfl rfl rfl rfl ?_ (Nat.le_of_ble_eq_true rfl) rfl (sign_ok _ hgb.1 hgb.2 _ h0) ?_; (focus kernel_rfl))
        | (refine AWL.call (f := 35) rfl rfl rfl ?_ rfl (Nat.le_of_ble_eq_true rfl) rfl (sign_ok _ hgb.1 hgb.2 _ h0) ?_; (focus kernel_rfl))
        | (refine CWr.call (f := 35) rfl ?_ rfl (sign_ok _ hgb.1 hgb.2 _ h0) (fun _ _ h => h) ?_ ?_ ?_; (focus kernel_rfl))
        | fail) <;> (try ((first | show AWL _ _ _ _ _ | show AW _ _ _ _ | show FW _ _ _ _ _ _ _ _ _ _ | show CW _ _ _ _ _ _ _ _ _ _ _ _ | (rintro _ _ ⟨rfl, rfl⟩; (try refine And.intro rfl ?_))); (try (conv => arg -1; simp (disch := omega) only [NSX, Nat.reduceBEq, Nat.reduceAdd, Nat.reduceMul, Int.reduceToNat, Nat.reduceSub, TY, slx, take16, drop16, dz, nums_length, e0, e00, e1, e2, e3, e4, e5, e6])))))
      | ((first | refine AWL.guard2 rfl rfl rfl rfl rfl rfl ?_ ?_ | refine CW.guard2 rfl rfl rfl rfl rfl rfl rfl rfl ?_ ?_) <;> (intro hc; (try simp only [Bool.not_true, Bool.not_false] at hc); first | (cases hc; done) | ((try simp only [hc]); (try simp only [beq_iff_eq, bne_iff_ne, decide_eq_true_eq, decide_eq_false_iff_not, beq_eq_false_iff_ne, bne_eq_false_iff_eq, ne_eq, Bool.not_eq_true, Bool.not_eq_false, Bool.not_eq_eq_eq_not, Bool.not_true, Bool.not_false, Decidable.not_not, Int.not_lt, Int.not_le] at hc); (try (exfalso; omega)); (try (guard_hyp hc : True; clear hc)))))
      | (refine AWL.guard2 rfl rfl rfl rfl rfl rfl (fun hc => ?_) ?_; (cases hc; done))
      | ((first | ((show AW _ (.region _ _ true) _ _); refine AW.calm false [] [] hmix (by (repeat' (first | exact panOk_end | exact panOk_endM | refine panOk_then ?_ | refine panOk_block ?_ | refine QEq.pan (by assumption) ?_))) ?_ rfl ?_; (focus (as_aux_lemma => kernel_rfl))) | refine AWL.guardU rfl rfl rfl rfl rfl rfl ?_ | refine CW.guardU rfl rfl rfl rfl rfl rfl rfl rfl ?_); (try (conv => arg -1; simp (disch := omega) only [NSX, Nat.reduceBEq, Nat.reduceAdd, Nat.reduceMul, Int.reduceToNat, Nat.reduceSub, TY, slx, take16, drop16, dz, nums_length, e0, e00, e1, e2, e3, e4, e5, e6])))
      | refine CW.tail rfl ?_
      | (refine AW.cond rfl (fun hc => ?_) (fun hc => ?_) <;> first | (cases hc; done) | ((try simp only [beq_iff_eq, bne_iff_ne, decide_eq_true_eq, decide_eq_false_iff_not, beq_eq_false_iff_ne, bne_eq_false_iff_eq, ne_eq, Bool.not_eq_true, Bool.not_eq_false, Bool.not_eq_eq_eq_not, Bool.not_true, Bool.not_false, Decidable.not_not, Int.not_lt, Int.not_le] at hc); (try (exfalso; omega)); (try (guard_hyp hc : True; clear hc))))
      | ((refine EndQ.mk rfl rfl rfl ?_ ?_ ?_; (focus (first | exact Or.inl rfl | exact Or.inr rfl))) <;> (try simp (disch := omega) only [NSX, Nat.reduceBEq, Nat.reduceAdd, Nat.reduceMul, Int.reduceToNat, Nat.reduceSub, TY, slx, take16, drop16, dz, nums_length, e0, e00, e1, e2, e3, e4, e5, e6]))
      | (focus ((first | exact trivial | omega | (refine And.intro (by kernel_rfl) (And.intro ⟨_, (by first | exact nums_ints _ _ | rfl), (by first | exact nums_ints _ _ | rfl)⟩ (And.intro ?_ ?_)) <;> (first | rfl | assumption | (simp only [nums_length]; omega) | omega)) | (refine And.intro ?_ (And.intro ?_ ?_); (focus kernel_rfl); (focus kernel_rfl); (focus kernel_rfl)) | ((show newKs _ _ _ = true); kernel_rfl) | ((show FitV _ _ _ _ _ _); (repeat' (first | exact trivial | exact Or.inr (Or.inl rfl) | exact Or.inl rfl | exact Or.inr (Or.inr rfl) | refine And.intro ?_ ?_)); done) | assumption | ((first | refine ld_nums i3 _ _ ?_ | refine ld_nums i22 _ _ ?_ | refine ld_nums i5 _ _ ?_ | refine at_nums i3 _ _ ?_ | refine at_nums i22 _ _ ?_ | refine at_nums i5 _ _ ?_); first | assumption | omega | (simp only [List.length_append]; omega)) | (show _ ≤ _; omega) | (simp only [List.length_take, List.length_drop, List.length_append, List.length_cons, List.length_nil]; omega) | ((repeat' (first | exact trivial | exact rfl | exact Nat.le_of_ble_eq_true rfl | refine And.intro ?_ ?_ | fail)); done) | ((try simp (disch := omega) only [NSX, Nat.reduceBEq, Nat.reduceAdd, Nat.reduceMul, Int.reduceToNat, Nat.reduceSub, TY, slx, take16, drop16, dz, nums_length, e0, e00, e1, e2, e3, e4, e5, e6]); (repeat' (first | exact trivial | exact rfl | exact ⟨_, _, rfl⟩ | exact ⟨_, rfl⟩ | exact Nat.le_of_ble_eq_true rfl | exact Nat.zero_lt_succ _ | omega | (simp only [nums_length, toB_len] at *; omega) | refine And.intro ?_ ?_ | fail)); done)); done))
      | fail)
    all_goals first | exact ⟨trivial, trivial⟩ | exact ⟨rfl, trivial⟩ | exact ⟨rfl, rfl⟩ | exact ⟨trivial, rfl⟩ | exact ⟨by rw [es, if_neg (by omega)], trivial⟩ | exact ⟨by rw [es, if_pos (by omega)], trivial⟩ | (exfalso; omega) | trace_state
  · have e0 : IntKind.u64.wrap 16 = 16 := by decide +kernel
    have e00 : IntKind.u64.wrap (IntKind.i64.wrap (16 - 1)) = 15 := by decide +kernel
    have e1 : IntKind.u64.wrap (1 * 2 ^ min 16 IntKind.u64.bits) = 65536 := by decide +kernel
    have e2 : IntKind.u64.wrap (1 * 2 ^ min 15 IntKind.u64.bits) = 32768 := by decide +kernel
    have e3 : IntKind.i64.wrap (1 * 2 ^ min 16 IntKind.i64.bits) = 65536 := by decide +kernel
    have e4 : x.tmod 65536 = x % 65536 := Int.tmod_eq_emod_of_nonneg h0
    have e5 : IntKind.i64.wrap (x % 65536) = x % 65536 := wrap64_id _ (by omega) (by omega)
    have e6 : IntKind.i64.wrap (x % 65536 - 65536) = x % 65536 - 65536 := wrap64_id _ (by omega) (by omega)
    have es : sgn 16 x = if x % 65536 < 32768 then x % 65536 else x % 65536 - 65536 := rfl
    refine AC.enter Try.func35 rfl (Nat.le_of_ble_eq_true rfl) ?_
    simp only [Try.f35]
    have hchk : True := by simp only [TY, slx, take16, drop16, dz, nums_length, e0, e00, e1, e2, e3, e4, e5, e6]
    repeat' (first
      | (refine AWL.opN (sl := SL) rfl rfl rfl trivial ?_; (try (conv => arg -1; simp (disch := omega) only [NSX, Nat.reduceBEq, Nat.reduceAdd, Nat.reduceMul, Int.reduceToNat, Nat.reduceSub, TY, slx, take16, drop16, dz, nums_length, e0, e00, e1, e2, e3, e4, e5, e6])))
      | (refine AW.seqQ ?_; intro Qn hQn)
      | (refine AW.blockQ ?_; intro Qn hQn)
      | refine AW.region ?_
      | ((first | refine AW.skip ?_ | refine AW.ret ?_ | refine AW.exit ?_ | refine AWL.nil ?_ | refine CW.nil ?_); (repeat (first | refine QEq.mp (by assumption) ?_ | simp only [thenQ, Go.Abs.blockQ, ↓reduceIte, Nat.reduceEqDiff])))
      | refine FW.nil ?_
      | refine FW.pass rfl rfl ?_
      | refine FW.go rfl ?_
      | refine CW.skip rfl rfl ?_
      | refine CW.step rfl rfl rfl rfl rfl ?_
      | ((first
        | (refine AWL.boxF (t := 26) rfl rfl rfl rfl rfl ?_)
        | (refine AWL.allocF (t := 26) rfl rfl rfl rfl rfl rfl ?_)
        | (refine CWr.allocF (t := 26) rfl rfl rfl ?_ ?_)
        | (refine AWL.op (sl := SL) rfl rfl ?_ ?_)
        | (refine FW.float rfl rfl rfl rfl rfl ?_)
        | (refine CWr.op rfl ?_ ?_ ?_)
        | (refine CWr.assign rfl ?_ ?_)
        | (refine CWr.alloc rfl rfl rfl rfl ?_)
        | (refine CWr.build rfl rfl rfl rfl ?_ rfl rfl rfl ?_)
        | (refine AWL.frzA rfl rfl ?_)
        | (refine AWL.callV (f := 34) rfl rfl rfl rfl ?_ (Nat.le_of_ble_eq_true rfl) rfl (rlanes_ok _) ?_; (focus kernel_rfl))
        | (refine AWL.call (f := 34) rfl rfl rfl ?_ rfl (Nat.le_of_ble_eq_true rfl) rfl (rlanes_ok _) ?_; (focus kernel_rfl))
        | (refine CWr.call (f := 34) rfl ?_ rfl (rlanes_ok _) (fun _ _ h => h) ?_ ?_ ?_; (focus kernel_rfl))
        | (refine AWL.callV (f := 31) rfl rfl rfl rfl ?_ (Nat.le_of_ble_eq_true rfl) rfl (rget_ok _ hl hb _ _) ?_; (focus kernel_rfl))
        | (refine AWL.call (f := 31) rfl rfl rfl ?_ rfl (Nat.le_of_ble_eq_true rfl) rfl (rget_ok _ hl hb _ _) ?_; (focus kernel_rfl))
        | (refine CWr.call (f := 31) rfl ?_ rfl (rget_ok _ hl hb _ _) (fun _ _ h => h) ?_ ?_ ?_; (focus kernel_rfl))
        | (refine AWL.callV (f := 35) rfl rfl rfl rfl ?_ (Nat.le_of_ble_eq_true rfl) rfl (sign_ok _ hgb.1 hgb.2 _ h0) ?_; (focus kernel_rfl))
        | (refine AWL.call (f := 35) rfl rfl rfl ?_ rfl (Nat.le_of_ble_eq_true rfl) rfl (sign_ok _ hgb.1 hgb.2 _ h0) ?_; (focus kernel_rfl))
        | (refine CWr.call (f := 35) rfl ?_ rfl (sign_ok _ hgb.1 hgb.2 _ h0) (fun _ _ h => h) ?_ ?_ ?_; (focus kernel_rfl))
        | fail) <;> (try ((first | show AWL _ _ _ _ _ | show AW _ _ _ _ | show FW _ _ _ _ _ _ _ _ _ _ | show CW _ _ _ _ _ _ _ _ _ _ _ _ | (rintro _ _ ⟨rfl, rfl⟩; (try refine And.intro rfl ?_))); (try (conv => arg -1; simp (disch := omega) only [NSX, Nat.reduceBEq, Nat.reduceAdd, Nat.reduceMul, Int.reduceToNat, Nat.reduceSub, TY, slx, take16, drop16, dz, nums_length, e0, e00, e1, e2, e3, e4, e5, e6])))))
      | ((first | refine AWL.guard2 rfl rfl rfl rfl rfl rfl ?_ ?_ | refine CW.guard2 rfl rfl rfl rfl rfl rfl rfl rfl ?_ ?_) <;> (intro hc; (try simp only [Bool.not_true, Bool.not_false] at hc); first | (cases hc; done) | ((try simp only [hc]); (try simp only [beq_iff_eq, bne_iff_ne, decide_eq_true_eq, decide_eq_false_iff_not, beq_eq_false_iff_ne, bne_eq_false_iff_eq, ne_eq, Bool.not_eq_true, Bool.not_eq_false, Bool.not_eq_eq_eq_not, Bool.not_true, Bool.not_false, Decidable.not_not, Int.not_lt, Int.not_le] at hc); (try (exfalso; omega)); (try (guard_hyp hc : True; clear hc)))))
      | (refine AWL.guard2 rfl rfl rfl rfl rfl rfl (fun hc => ?_) ?_; (cases hc; done))
      | ((first | ((show AW _ (.region _ _ true) _ _); refine AW.calm false [] [] hmix (by (repeat' (first | exact panOk_end | exact panOk_endM | refine panOk_then ?_ | refine panOk_block ?_ | refine QEq.pan (by assumption) ?_))) ?_ rfl ?_; (focus (as_aux_lemma => kernel_rfl))) | refine AWL.guardU rfl rfl rfl rfl rfl rfl ?_ | refine CW.guardU rfl rfl rfl rfl rfl rfl rfl rfl ?_); (try (conv => arg -1; simp (disch := omega) only [NSX, Nat.reduceBEq, Nat.reduceAdd, Nat.reduceMul, Int.reduceToNat, Nat.reduceSub, TY, slx, take16, drop16, dz, nums_length, e0, e00, e1, e2, e3, e4, e5, e6])))
      | refine CW.tail rfl ?_
      | (refine AW.cond rfl (fun hc => ?_) (fun hc => ?_) <;> first | (cases hc; done) | ((try simp only [beq_iff_eq, bne_iff_ne, decide_eq_true_eq, decide_eq_false_iff_not, beq_eq_false_iff_ne, bne_eq_false_iff_eq, ne_eq, Bool.not_eq_true, Bool.not_eq_false, Bool.not_eq_eq_eq_not, Bool.not_true, Bool.not_false, Decidable.not_not, Int.not_lt, Int.not_le] at hc); (try (exfalso; omega)); (try (guard_hyp hc : True; clear hc))))
      | ((refine EndQ.mk rfl rfl rfl ?_ ?_ ?_; (focus (first | exact Or.inl rfl | exact Or.inr rfl))) <;> (try simp (disch := omega) only [NSX, Nat.reduceBEq, Nat.reduceAdd, Nat.reduceMul, Int.reduceToNat, Nat.reduceSub, TY, slx, take16, drop16, dz, nums_length, e0, e00, e1, e2, e3, e4, e5, e6]))
      | (focus ((first | exact trivial | omega | (refine And.intro (by kernel_rfl) (And.intro ⟨_, (by first | exact nums_ints _ _ | rfl), (by first | exact nums_ints _ _ | rfl)⟩ (And.intro ?_ ?_)) <;> (first | rfl | assumption | (simp only [nums_length]; omega) | omega)) | (refine And.intro ?_ (And.intro ?_ ?_); (focus kernel_rfl); (focus kernel_rfl); (focus kernel_rfl)) | ((show newKs _ _ _ = true); kernel_rfl) | ((show FitV _ _ _ _ _ _); (repeat' (first | exact trivial | exact Or.inr (Or.inl rfl) | exact Or.inl rfl | exact Or.inr (Or.inr rfl) | refine And.intro ?_ ?_)); done) | assumption | ((first | refine ld_nums i3 _ _ ?_ | refine ld_nums i22 _ _ ?_ | refine ld_nums i5 _ _ ?_ | refine at_nums i3 _ _ ?_ | refine at_nums i22 _ _ ?_ | refine at_nums i5 _ _ ?_); first | assumption | omega | (simp only [List.length_append]; omega)) | (show _ ≤ _; omega) | (simp only [List.length_take, List.length_drop, List.length_append, List.length_cons, List.length_nil]; omega) | ((repeat' (first | exact trivial | exact rfl | exact Nat.le_of_ble_eq_true rfl | refine And.intro ?_ ?_ | fail)); done) | ((try simp (disch := omega) only [NSX, Nat.reduceBEq, Nat.reduceAdd, Nat.reduceMul, Int.reduceToNat, Nat.reduceSub, TY, slx, take16, drop16, dz, nums_length, e0, e00, e1, e2, e3, e4, e5, e6]); (repeat' (first | exact trivial | exact rfl | exact ⟨_, _, rfl⟩ | exact ⟨_, rfl⟩ | exact Nat.le_of_ble_eq_true rfl | exact Nat.zero_lt_succ _ | omega | (simp only [nums_length, toB_len] at *; omega) | refine And.intro ?_ ?_ | fail)); done)); done))
      | fail)
    all_goals first | exact ⟨trivial, trivial⟩ | exact ⟨rfl, trivial⟩ | exact ⟨rfl, rfl⟩ | exact ⟨trivial, rfl⟩ | exact ⟨by rw [es, if_neg (by omega)], trivial⟩ | exact ⟨by rw [es, if_pos (by omega)], trivial⟩ | (exfalso; omega) | trace_state
  · have e0 : IntKind.u64.wrap 32 = 32 := by decide +kernel
    have e00 : IntKind.u64.wrap (IntKind.i64.wrap (32 - 1)) = 31 := by decide +kernel
    have e1 : IntKind.u64.wrap (1 * 2 ^ min 32 IntKind.u64.bits) = 4294967296 := by decide +kernel
    have e2 : IntKind.u64.wrap (1 * 2 ^ min 31 IntKind.u64.bits) = 2147483648 := by decide +kernel
    have e3 : IntKind.i64.wrap (1 * 2 ^ min 32 IntKind.i64.bits) = 4294967296 := by decide +kernel
    have e4 : x.tmod 4294967296 = x % 4294967296 := Int.tmod_eq_emod_of_nonneg h0
    have e5 : IntKind.i64.wrap (x % 4294967296) = x % 4294967296 := wrap64_id _ (by omega) (by omega)
    have e6 : IntKind.i64.wrap (x % 4294967296 - 4294967296) = x % 4294967296 - 4294967296 := wrap64_id _ (by omega) (by omega)
    have es : sgn 32 x = if x % 4294967296 < 2147483648 then x % 4294967296 else x % 4294967296 - 4294967296 := rfl
    refine AC.enter Try.func35 rfl (Nat.le_of_ble_eq_true rfl) ?_
    simp only [Try.f35]
    have hchk : True := by simp only [TY, slx, take16, drop16, dz, nums_length, e0, e00, e1, e2, e3, e4, e5, e6]
    repeat' (first
      | (refine AWL.opN (sl := SL) rfl rfl rfl trivial ?_; (try (conv => arg -1; simp (disch := omega) only [NSX, Nat.reduceBEq, Nat.reduceAdd, Nat.reduceMul, Int.reduceToNat, Nat.reduceSub, TY, slx, take16, drop16, dz, nums_length, e0, e00, e1, e2, e3, e4, e5, e6])))
      | (refine AW.seqQ ?_; intro Qn hQn)
      | (refine AW.blockQ ?_; intro Qn hQn)
      | refine AW.region ?_
      | ((first | refine AW.skip ?_ | refine AW.ret ?_ | refine AW.exit ?_ | refine AWL.nil ?_ | refine CW.nil ?_); (repeat (first | refine QEq.mp (by assumption) ?_ | simp only [thenQ, Go.Abs.blockQ, ↓reduceIte, Nat.reduceEqDiff])))
      | refine FW.nil ?_
      | refine FW.pass rfl rfl ?_
      | refine FW.go rfl ?_
      | refine CW.skip rfl rfl ?_
      | refine CW.step rfl rfl rfl rfl rfl ?_
      | ((first
        | (refine AWL.boxF (t := 26) rfl rfl rfl rfl rfl ?_)
        | (refine AWL.allocF (t := 26) rfl rfl rfl rfl rfl rfl ?_)
        | (refine CWr.allocF (t := 26) rfl rfl rfl ?_ ?_)
        | (refine AWL.op (sl := SL) rfl rfl ?_ ?_)
        | (refine FW.float rfl rfl rfl rfl rfl ?_)
        | (refine CWr.op rfl ?_ ?_ ?_)
        | (refine CWr.assign rfl ?_ ?_)
        | (refine CWr.alloc rfl rfl rfl rfl ?_)
        | (refine CWr.build rfl rfl rfl rfl ?_ rfl rfl rfl ?_)
        | (refine AWL.frzA rfl rfl ?_)
        | (refine AWL.callV (f := 34) rfl rfl rfl rfl ?_ (Nat.le_of_ble_eq_true rfl) rfl (rlanes_ok _) ?_; (focus kernel_rfl))
        | (refine AWL.call (f := 34) rfl rfl rfl ?_ rfl (Nat.le_of_ble_eq_true rfl) rfl (rlanes_ok _) ?_; (focus kernel_rfl))
        | (refine CWr.call (f := 34) rfl ?_ rfl (rlanes_ok _) (fun _ _ h => h) ?_ ?_ ?_; (focus kernel_rfl))
        | (refine AWL.callV (f := 31) rfl rfl rfl rfl ?_ (Nat.le_of_ble_eq_true rfl) rfl (rget_ok _ hl hb _ _) ?_; (focus kernel_rfl))
        | (refine AWL.call (f := 31) rfl rfl rfl ?_ rfl (Nat.le_of_ble_eq_true rfl) rfl (rget_ok _ hl hb _ _) ?_; (focus kernel_rfl))
        | (refine CWr.call (f := 31) rfl ?_ rfl (rget_ok _ hl hb _ _) (fun _ _ h => h) ?_ ?_ ?_; (focus kernel_rfl))
        | (refine AWL.callV (f := 35) rfl rfl rfl rfl ?_ (Nat.le_of_ble_eq_true rfl) rfl (sign_ok _ hgb.1 hgb.2 _ h0) ?_; (focus kernel_rfl))
        | (refine AWL.call (f := 35) rfl rfl rfl ?_ rfl (Nat.le_of_ble_eq_true rfl) rfl (sign_ok _ hgb.1 hgb.2 _ h0) ?_; (focus kernel_rfl))
        | (refine CWr.call (f := 35) rfl ?_ rfl (sign_ok _ hgb.1 hgb.2 _ h0) (fun _ _ h => h) ?_ ?_ ?_; (focus kernel_rfl))
        | fail) <;> (try ((first | show AWL _ _ _ _ _ | show AW _ _ _ _ | show FW _ _ _ _ _ _ _ _ _ _ | show CW _ _ _ _ _ _ _ _ _ _ _ _ | (rintro _ _ ⟨rfl, rfl⟩; (try refine And.intro rfl ?_))); (try (conv => arg -1; simp (disch := omega) only [NSX, Nat.reduceBEq, Nat.reduceAdd, Nat.reduceMul, Int.reduceToNat, Nat.reduceSub, TY, slx, take16, drop16, dz, nums_length, e0, e00, e1, e2, e3, e4, e5, e6])))))
      | ((first | refine AWL.guard2 rfl rfl rfl rfl rfl rfl ?_ ?_ | refine CW.guard2 rfl rfl rfl rfl rfl rfl rfl rfl ?_ ?_) <;> (intro hc; (try simp only [Bool.not_true, Bool.not_false] at hc); first | (cases hc; done) | ((try simp only [hc]); (try simp only [beq_iff_eq, bne_iff_ne, decide_eq_true_eq, decide_eq_false_iff_not, beq_eq_false_iff_ne, bne_eq_false_iff_eq, ne_eq, Bool.not_eq_true, Bool.not_eq_false, Bool.not_eq_eq_eq_not, Bool.not_true, Bool.not_false, Decidable.not_not, Int.not_lt, Int.not_le] at hc); (try (exfalso; omega)); (try (guard_hyp hc : True; clear hc)))))
      | (refine AWL.guard2 rfl rfl rfl rfl rfl rfl (fun hc => ?_) ?_; (cases hc; done))
      | ((first | ((show AW _ (.region _ _ true) _ _); refine AW.calm false [] [] hmix (by (repeat' (first | exact panOk_end | exact panOk_endM | refine panOk_then ?_ | refine panOk_block ?_ | refine QEq.pan (by assumption) ?_))) ?_ rfl ?_; (focus (as_aux_lemma => kernel_rfl))) | refine AWL.guardU rfl rfl rfl rfl rfl rfl ?_ | refine CW.guardU rfl rfl rfl rfl rfl rfl rfl rfl ?_); (try (conv => arg -1; simp (disch := omega) only [NSX, Nat.reduceBEq, Nat.reduceAdd, Nat.reduceMul, Int.reduceToNat, Nat.reduceSub, TY, slx, take16, drop16, dz, nums_length, e0, e00, e1, e2, e3, e4, e5, e6])))
      | refine CW.tail rfl ?_
      | (refine AW.cond rfl (fun hc => ?_) (fun hc => ?_) <;> first | (cases hc; done) | ((try simp only [beq_iff_eq, bne_iff_ne, decide_eq_true_eq, decide_eq_false_iff_not, beq_eq_false_iff_ne, bne_eq_false_iff_eq, ne_eq, Bool.not_eq_true, Bool.not_eq_false, Bool.not_eq_eq_eq_not, Bool.not_true, Bool.not_false, Decidable.not_not, Int.not_lt, Int.not_le] at hc); (try (exfalso; omega)); (try (guard_hyp hc : True; clear hc))))
      | ((refine EndQ.mk rfl rfl rfl ?_ ?_ ?_; (focus (first | exact Or.inl rfl | exact Or.inr rfl))) <;> (try simp (disch := omega) only [NSX, Nat.reduceBEq, Nat.reduceAdd, Nat.reduceMul, Int.reduceToNat, Nat.reduceSub, TY, slx, take16, drop16, dz, nums_length, e0, e00, e1, e2, e3, e4, e5, e6]))
      | (focus ((first | exact trivial | omega | (refine And.intro (by kernel_rfl) (And.intro ⟨_, (by first | exact nums_ints _ _ | rfl), (by first | exact nums_ints _ _ | rfl)⟩ (And.intro ?_ ?_)) <;> (first | rfl | assumption | (simp only [nums_length]; omega) | omega)) | (refine And.intro ?_ (And.intro ?_ ?_); (focus kernel_rfl); (focus kernel_rfl); (focus kernel_rfl)) | ((show newKs _ _ _ = true); kernel_rfl) | ((show FitV _ _ _ _ _ _); (repeat' (first | exact trivial | exact Or.inr (Or.inl rfl) | exact Or.inl rfl | exact Or.inr (Or.inr rfl) | refine And.intro ?_ ?_)); done) | assumption | ((first | refine ld_nums i3 _ _ ?_ | refine ld_nums i22 _ _ ?_ | refine ld_nums i5 _ _ ?_ | refine at_nums i3 _ _ ?_ | refine at_nums i22 _ _ ?_ | refine at_nums i5 _ _ ?_); first | assumption | omega | (simp only [List.length_append]; omega)) | (show _ ≤ _; omega) | (simp only [List.length_take, List.length_drop, List.length_append, List.length_cons, List.length_nil]; omega) | ((repeat' (first | exact trivial | exact rfl | exact Nat.le_of_ble_eq_true rfl | refine And.intro ?_ ?_ | fail)); done) | ((try simp (disch := omega) only [NSX, Nat.reduceBEq, Nat.reduceAdd, Nat.reduceMul, Int.reduceToNat, Nat.reduceSub, TY, slx, take16, drop16, dz, nums_length, e0, e00, e1, e2, e3, e4, e5, e6]); (repeat' (first | exact trivial | exact rfl | exact ⟨_, _, rfl⟩ | exact ⟨_, rfl⟩ | exact Nat.le_of_ble_eq_true rfl | exact Nat.zero_lt_succ _ | omega | (simp only [nums_length, toB_len] at *; omega) | refine And.intro ?_ ?_ | fail)); done)); done))
      | fail)
    all_goals first | exact ⟨trivial, trivial⟩ | exact ⟨rfl, trivial⟩ | exact ⟨rfl, rfl⟩ | exact ⟨trivial, rfl⟩ | exact ⟨by rw [es, if_neg (by omega)], trivial⟩ | exact ⟨by rw [es, if_pos (by omega)], trivial⟩ | (exfalso; omega) | trace_state
  · have es : sgn 64 x = if x % 18446744073709551616 < 9223372036854775808 then x % 18446744073709551616 else x % 18446744073709551616 - 18446744073709551616 := rfl
    have e1 : IntKind.i64.wrap x = sgn 64 x := by rw [es, IntKind.wrap_i64]; split <;> omega
    refine AC.enter Try.func35 rfl (Nat.le_of_ble_eq_true rfl) ?_
    simp only [Try.f35]
    have hchk : True := by simp only [TY, slx, take16, drop16, dz, nums_length, e1]
    repeat' (first
      | (refine AWL.opN (sl := SL) rfl rfl rfl trivial ?_; (try (conv => arg -1; simp (disch := omega) only [NSX, Nat.reduceBEq, Nat.reduceAdd, Nat.reduceMul, Int.reduceToNat, Nat.reduceSub, TY, slx, take16, drop16, dz, nums_length, e1])))
      | (refine AW.seqQ ?_; intro Qn hQn)
      | (refine AW.blockQ ?_; intro Qn hQn)
      | refine AW.region ?_
      | ((first | refine AW.skip ?_ | refine AW.ret ?_ | refine AW.exit ?_ | refine AWL.nil ?_ | refine CW.nil ?_); (repeat (first | refine QEq.mp (by assumption) ?_ | simp only [thenQ, Go.Abs.blockQ, ↓reduceIte, Nat.reduceEqDiff])))
      | refine FW.nil ?_
      | refine FW.pass rfl rfl ?_
      | refine FW.go rfl ?_
      | refine CW.skip rfl rfl ?_
      | refine CW.step rfl rfl rfl rfl rfl ?_
      | ((first
        | (refine AWL.boxF (t := 26) rfl rfl rfl rfl rfl ?_)
        | (refine AWL.allocF (t := 26) rfl rfl rfl rfl rfl rfl ?_)
        | (refine CWr.allocF (t := 26) rfl rfl rfl ?_ ?_)
        | (refine AWL.op (sl := SL) rfl rfl ?_ ?_)
        | (refine FW.float rfl rfl rfl rfl rfl ?_)
        | (refine CWr.op rfl ?_ ?_ ?_)
        | (refine CWr.assign rfl ?_ ?_)
        | (refine CWr.alloc rfl rfl rfl rfl ?_)
        | (refine CWr.build rfl rfl rfl rfl ?_ rfl rfl rfl ?_)
        | (refine AWL.frzA rfl rfl ?_)
        | (refine AWL.callV (f := 34) rfl rfl rfl rfl ?_ (Nat.le_of_ble_eq_true rfl) rfl (rlanes_ok _) ?_; (focus kernel_rfl))
        | (refine AWL.call (f := 34) rfl rfl rfl ?_ rfl (Nat.le_of_ble_eq_true rfl) rfl (rlanes_ok _) ?_; (focus kernel_rfl))
        | (refine CWr.call (f := 34) rfl ?_ rfl (rlanes_ok _) (fun _ _ h => h) ?_ ?_ ?_; (focus kernel_rfl))
        | (refine AWL.callV (f := 31) rfl rfl rfl rfl ?_ (Nat.le_of_ble_eq_true rfl) rfl (rget_ok _ hl hb _ _) ?_; (focus kernel_rfl))
        | (refine AWL.call (f := 31) rfl rfl rfl ?_ rfl (Nat.le_of_ble_eq_true rfl) rfl (rget_ok _ hl hb _ _) ?_; (focus kernel_rfl))
        | (refine CWr.call (f := 31) rfl ?_ rfl (rget_ok _ hl hb _ _) (fun _ _ h => h) ?_ ?_ ?_; (focus kernel_rfl))
        | (refine AWL.callV (f := 35) rfl rfl rfl rfl ?_ (Nat.le_of_ble_eq_true rfl) rfl (sign_ok _ hgb.1 hgb.2 _ h0) ?_; (focus kernel_rfl))
        | (refine AWL.call (f := 35) rfl rfl rfl ?_ rfl (Nat.le_of_ble_eq_true rfl) rfl (sign_ok _ hgb.1 hgb.2 _ h0) ?_; (focus kernel_rfl))
        | (refine CWr.call (f := 35) rfl ?_ rfl (sign_ok _ hgb.1 hgb.2 _ h0) (fun _ _ h => h) ?_ ?_ ?_; (focus kernel_rfl))
        | fail) <;> (try ((first | show AWL _ _ _ _ _ | show AW _ _ _ _ | show FW _ _ _ _ _ _ _ _ _ _ | show CW _ _ _ _ _ _ _ _ _ _ _ _ | (rintro _ _ ⟨rfl, rfl⟩; (try refine And.intro rfl ?_))); (try (conv => arg -1; simp (disch := omega) only [NSX, Nat.reduceBEq, Nat.reduceAdd, Nat.reduceMul, Int.reduceToNat, Nat.reduceSub, TY, slx, take16, drop16, dz, nums_length, e1])))))
      | ((first | refine AWL.guard2 rfl rfl rfl rfl rfl rfl ?_ ?_ | refine CW.guard2 rfl rfl rfl rfl rfl rfl rfl rfl ?_ ?_) <;> (intro hc; (try simp only [Bool.not_true, Bool.not_false] at hc); first | (cases hc; done) | ((try simp only [hc]); (try simp only [beq_iff_eq, bne_iff_ne, decide_eq_true_eq, decide_eq_false_iff_not, beq_eq_false_iff_ne, bne_eq_false_iff_eq, ne_eq, Bool.not_eq_true, Bool.not_eq_false, Bool.not_eq_eq_eq_not, Bool.not_true, Bool.not_false, Decidable.not_not, Int.not_lt, Int.not_le] at hc); (try (exfalso; omega)); (try (guard_hyp hc : True; clear hc)))))
      | (refine AWL.guard2 rfl rfl rfl rfl rfl rfl (fun hc => ?_) ?_; (cases hc; done))
      | ((first | ((show AW _ (.region _ _ true) _ _); refine AW.calm false [] [] hmix (by (repeat' (first | exact panOk_end | exact panOk_endM | refine panOk_then ?_ | refine panOk_block ?_ | refine QEq.pan (by assumption) ?_))) ?_ rfl ?_; (focus (as_aux_lemma => kernel_rfl))) | refine AWL.guardU rfl rfl rfl rfl rfl rfl ?_ | refine CW.guardU rfl rfl rfl rfl rfl rfl rfl rfl ?_); (try (conv => arg -1; simp (disch := omega) only [NSX, Nat.reduceBEq, Nat.reduceAdd, Nat.reduceMul, Int.reduceToNat, Nat.reduceSub, TY, slx, take16, drop16, dz, nums_length, e1])))
      | refine CW.tail rfl ?_
      | (refine AW.cond rfl (fun hc => ?_) (fun hc => ?_) <;> first | (cases hc; done) | ((try simp only [beq_iff_eq, bne_iff_ne, decide_eq_true_eq, decide_eq_false_iff_not, beq_eq_false_iff_ne, bne_eq_false_iff_eq, ne_eq, Bool.not_eq_true, Bool.not_eq_false, Bool.not_eq_eq_eq_not, Bool.not_true, Bool.not_false, Decidable.not_not, Int.not_lt, Int.not_le] at hc); (try (exfalso; omega)); (try (guard_hyp hc : True; clear hc))))
      | ((refine EndQ.mk rfl rfl rfl ?_ ?_ ?_; (focus (first | exact Or.inl rfl | exact Or.inr rfl))) <;> (try simp (disch := omega) only [NSX, Nat.reduceBEq, Nat.reduceAdd, Nat.reduceMul, Int.reduceToNat, Nat.reduceSub, TY, slx, take16, drop16, dz, nums_length, e1]))
      | (focus ((first | exact trivial | omega | (refine And.intro (by kernel_rfl) (And.intro ⟨_, (by first | exact nums_ints _ _ | rfl), (by first | exact nums_ints _ _ | rfl)⟩ (And.intro ?_ ?_)) <;> (first | rfl | assumption | (simp only [nums_length]; omega) | omega)) | (refine And.intro ?_ (And.intro ?_ ?_); (focus kernel_rfl); (focus kernel_rfl); (focus kernel_rfl)) | ((show newKs _ _ _ = true); kernel_rfl) | ((show FitV _ _ _ _ _ _); (repeat' (first | exact trivial | exact Or.inr (Or.inl rfl) | exact Or.inl rfl | exact Or.inr (Or.inr rfl) | refine And.intro ?_ ?_)); done) | assumption | ((first | refine ld_nums i3 _ _ ?_ | refine ld_nums i22 _ _ ?_ | refine ld_nums i5 _ _ ?_ | refine at_nums i3 _ _ ?_ | refine at_nums i22 _ _ ?_ | refine at_nums i5 _ _ ?_); first | assumption | omega | (simp only [List.length_append]; omega)) | (show _ ≤ _; omega) | (simp only [List.length_take, List.length_drop, List.length_append, List.length_cons, List.length_nil]; omega) | ((repeat' (first | exact trivial | exact rfl | exact Nat.le_of_ble_eq_true rfl | refine And.intro ?_ ?_ | fail)); done) | ((try simp (disch := omega) only [NSX, Nat.reduceBEq, Nat.reduceAdd, Nat.reduceMul, Int.reduceToNat, Nat.reduceSub, TY, slx, take16, drop16, dz, nums_length, e1]); (repeat' (first | exact trivial | exact rfl | exact ⟨_, _, rfl⟩ | exact ⟨_, rfl⟩ | exact Nat.le_of_ble_eq_true rfl | exact Nat.zero_lt_succ _ | omega | (simp only [nums_length, toB_len] at *; omega) | refine And.intro ?_ ?_ | fail)); done)); done))
      | fail)
    all_goals first | exact ⟨trivial, trivial⟩ | exact ⟨rfl, trivial⟩ | exact ⟨rfl, rfl⟩ | exact ⟨trivial, rfl⟩ | (exfalso; omega) | trace_state
set_option maxHeartbeats 800000 in
theorem rsigned_ok (v : List Int) (hl : v.length = 16) (hb : bytes v) (w i : Int) : AC Try.prog 30 [.fagg (nums .u8 v), .int .i64 w, .int .i64 i] (fun r m => r = .int .i64 (signed v w i) ∧ m = []) := by
  have hgb := get_bound w i hb
  by_cases h0 : lanes w = 0
  · have hs : signed v w i = 0 := by unfold signed; rw [if_pos h0]
    rw [hs]
    refine AC.enter Try.func30 rfl (Nat.le_of_ble_eq_true rfl) ?_
    simp only [Try.f30]
    have hchk : True := by simp only [TY, slx, take16, drop16, dz, nums_length, hl]
    repeat' (first
      | (refine AWL.opN (sl := SL) rfl rfl rfl trivial ?_; (try (conv => arg -1; simp (disch := omega) only [NSX, Nat.reduceBEq, Nat.reduceAdd, Nat.reduceMul, Int.reduceToNat, Nat.reduceSub, TY, slx, take16, drop16, dz, nums_length, hl])))
      | (refine AW.seqQ ?_; intro Qn hQn)
      | (refine AW.blockQ ?_; intro Qn hQn)
      | refine AW.region ?_
      | ((first | refine AW.skip ?_ | refine AW.ret ?_ | refine AW.exit ?_ | refine AWL.nil ?_ | refine CW.nil ?_); (repeat (first | refine QEq.mp (by assumption) ?_ | simp only [thenQ, Go.Abs.blockQ, ↓reduceIte, Nat.reduceEqDiff])))
      | refine FW.nil ?_
      | refine FW.pass rfl rfl ?_
      | refine FW.go rfl ?_
      | refine CW.skip rfl rfl ?_
      | refine CW.step rfl rfl rfl rfl rfl ?_
      | ((first
        | (refine AWL.boxF (t := 26) rfl rfl rfl rfl rfl ?_)
        | (refine AWL.allocF (t := 26) rfl rfl rfl rfl rfl rfl ?_)
        | (refine CWr.allocF (t := 26) rfl rfl rfl ?_ ?_)
        | (refine AWL.op (sl := SL) rfl rfl ?_ ?_)
        | (refine FW.float rfl rfl rfl rfl rfl ?_)
        | (refine CWr.op rfl ?_ ?_ ?_)
        | (refine CWr.assign rfl ?_ ?_)
        | (refine CWr.alloc rfl rfl rfl rfl ?_)
        | (refine CWr.build rfl rfl rfl rfl ?_ rfl rfl rfl ?_)
        | (refine AWL.frzA rfl rfl ?_)
        | (refine AWL.callV (f := 34) rfl rfl rfl rfl ?_ (Nat.le_of_ble_eq_true rfl) rfl (rlanes_ok _) ?_; (focus kernel_rfl))
        | (refine AWL.call (f := 34) rfl rfl rfl ?_ rfl (Nat.le_of_ble_eq_true rfl) rfl (rlanes_ok _) ?_; (focus kernel_rfl))
        | (refine CWr.call (f := 34) rfl ?_ rfl (rlanes_ok _) (fun _ _ h => h) ?_ ?_ ?_; (focus kernel_rfl))
        | (refine AWL.callV (f := 31) rfl rfl rfl rfl ?_ (Nat.le_of_ble_eq_true rfl) rfl (rget_ok _ hl hb _ _) ?_; (focus kernel_rfl))
        | (refine AWL.call (f := 31) rfl rfl rfl ?_ rfl (Nat.le_of_ble_eq_true rfl) rfl (rget_ok _ hl hb _ _) ?_; (focus kernel_rfl))
        | (refine CWr.call (f := 31) rfl ?_ rfl (rget_ok _ hl hb _ _) (fun _ _ h => h) ?_ ?_ ?_; (focus kernel_rfl))
        | (refine AWL.callV (f := 35) rfl rfl rfl rfl ?_ (Nat.le_of_ble_eq_true rfl) rfl (sign_ok _ hgb.1 hgb.2 _ h0) ?_; (focus kernel_rfl))
        | (refine AWL.call (f := 35) rfl rfl rfl ?_ rfl (Nat.le_of_ble_eq_true rfl) rfl (sign_ok _ hgb.1 hgb.2 _ h0) ?_; (focus kernel_rfl))
        | (refine CWr.call (f := 35) rfl ?_ rfl (sign_ok _ hgb.1 hgb.2 _ h0) (fun _ _ h => h) ?_ ?_ ?_; (focus kernel_rfl))
        | fail) <;> (try ((first | show AWL _ _ _ _ _ | show AW _ _ _ _ | show FW _ _ _ _ _ _ _ _ _ _ | show CW _ _ _ _ _ _ _ _ _ _ _ _ | (rintro _ _ ⟨rfl, rfl⟩; (try refine And.intro rfl ?_))); (try (conv => arg -1; simp (disch := omega) only [NSX, Nat.reduceBEq, Nat.reduceAdd, Nat.reduceMul, Int.reduceToNat, Nat.reduceSub, TY, slx, take16, drop16, dz, nums_length, hl])))))
      | ((first | refine AWL.guard2 rfl rfl rfl rfl rfl rfl ?_ ?_ | refine CW.guard2 rfl rfl rfl rfl rfl rfl rfl rfl ?_ ?_) <;> (intro hc; (try simp only [Bool.not_true, Bool.not_false] at hc); first | (cases hc; done) | ((try simp only [hc]); (try simp only [beq_iff_eq, bne_iff_ne, decide_eq_true_eq, decide_eq_false_iff_not, beq_eq_false_iff_ne, bne_eq_false_iff_eq, ne_eq, Bool.not_eq_true, Bool.not_eq_false, Bool.not_eq_eq_eq_not, Bool.not_true, Bool.not_false, Decidable.not_not, Int.not_lt, Int.not_le] at hc); (try (exfalso; omega)); (try (guard_hyp hc : True; clear hc)))))
      | (refine AWL.guard2 rfl rfl rfl rfl rfl rfl (fun hc => ?_) ?_; (cases hc; done))
      | ((first | ((show AW _ (.region _ _ true) _ _); refine AW.calm false [] [] hmix (by (repeat' (first | exact panOk_end | exact panOk_endM | refine panOk_then ?_ | refine panOk_block ?_ | refine QEq.pan (by assumption) ?_))) ?_ rfl ?_; (focus (as_aux_lemma => kernel_rfl))) | refine AWL.guardU rfl rfl rfl rfl rfl rfl ?_ | refine CW.guardU rfl rfl rfl rfl rfl rfl rfl rfl ?_); (try (conv => arg -1; simp (disch := omega) only [NSX, Nat.reduceBEq, Nat.reduceAdd, Nat.reduceMul, Int.reduceToNat, Nat.reduceSub, TY, slx, take16, drop16, dz, nums_length, hl])))
      | refine CW.tail rfl ?_
      | (refine AW.cond rfl (fun hc => ?_) (fun hc => ?_) <;> first | (cases hc; done) | ((try simp only [beq_iff_eq, bne_iff_ne, decide_eq_true_eq, decide_eq_false_iff_not, beq_eq_false_iff_ne, bne_eq_false_iff_eq, ne_eq, Bool.not_eq_true, Bool.not_eq_false, Bool.not_eq_eq_eq_not, Bool.not_true, Bool.not_false, Decidable.not_not, Int.not_lt, Int.not_le] at hc); (try (exfalso; omega)); (try (guard_hyp hc : True; clear hc))))
      | ((refine EndQ.mk rfl rfl rfl ?_ ?_ ?_; (focus (first | exact Or.inl rfl | exact Or.inr rfl))) <;> (try simp (disch := omega) only [NSX, Nat.reduceBEq, Nat.reduceAdd, Nat.reduceMul, Int.reduceToNat, Nat.reduceSub, TY, slx, take16, drop16, dz, nums_length, hl]))
      | (focus ((first | exact trivial | omega | (refine And.intro (by kernel_rfl) (And.intro ⟨_, (by first | exact nums_ints _ _ | rfl), (by first | exact nums_ints _ _ | rfl)⟩ (And.intro ?_ ?_)) <;> (first | rfl | assumption | (simp only [nums_length]; omega) | omega)) | (refine And.intro ?_ (And.intro ?_ ?_); (focus kernel_rfl); (focus kernel_rfl); (focus kernel_rfl)) | ((show newKs _ _ _ = true); kernel_rfl) | ((show FitV _ _ _ _ _ _); (repeat' (first | exact trivial | exact Or.inr (Or.inl rfl) | exact Or.inl rfl | exact Or.inr (Or.inr rfl) | refine And.intro ?_ ?_)); done) | assumption | ((first | refine ld_nums i3 _ _ ?_ | refine ld_nums i22 _ _ ?_ | refine ld_nums i5 _ _ ?_ | refine at_nums i3 _ _ ?_ | refine at_nums i22 _ _ ?_ | refine at_nums i5 _ _ ?_); first | assumption | omega | (simp only [List.length_append]; omega)) | (show _ ≤ _; omega) | (simp only [List.length_take, List.length_drop, List.length_append, List.length_cons, List.length_nil]; omega) | ((repeat' (first | exact trivial | exact rfl | exact Nat.le_of_ble_eq_true rfl | refine And.intro ?_ ?_ | fail)); done) | ((try simp (disch := omega) only [NSX, Nat.reduceBEq, Nat.reduceAdd, Nat.reduceMul, Int.reduceToNat, Nat.reduceSub, TY, slx, take16, drop16, dz, nums_length, hl]); (repeat' (first | exact trivial | exact rfl | exact ⟨_, _, rfl⟩ | exact ⟨_, rfl⟩ | exact Nat.le_of_ble_eq_true rfl | exact Nat.zero_lt_succ _ | omega | (simp only [nums_length, toB_len] at *; omega) | refine And.intro ?_ ?_ | fail)); done)); done))
      | fail)
    all_goals first | exact ⟨trivial, trivial⟩ | exact ⟨rfl, trivial⟩ | exact ⟨rfl, rfl⟩ | exact ⟨trivial, rfl⟩ | (exfalso; omega) | trace_state
  · have hs : signed v w i = sgn w (get v w i) := by unfold signed; rw [if_neg h0]
    rw [hs]
    refine AC.enter Try.func30 rfl (Nat.le_of_ble_eq_true rfl) ?_
    simp only [Try.f30]
    have hchk : True := by simp only [TY, slx, take16, drop16, dz, nums_length, hl]
    repeat' (first
      | (refine AWL.opN (sl := SL) rfl rfl rfl trivial ?_; (try (conv => arg -1; simp (disch := omega) only [NSX, Nat.reduceBEq, Nat.reduceAdd, Nat.reduceMul, Int.reduceToNat, Nat.reduceSub, TY, slx, take16, drop16, dz, nums_length, hl])))
      | (refine AW.seqQ ?_; intro Qn hQn)
      | (refine AW.blockQ ?_; intro Qn hQn)
      | refine AW.region ?_
      | ((first | refine AW.skip ?_ | refine AW.ret ?_ | refine AW.exit ?_ | refine AWL.nil ?_ | refine CW.nil ?_); (repeat (first | refine QEq.mp (by assumption) ?_ | simp only [thenQ, Go.Abs.blockQ, ↓reduceIte, Nat.reduceEqDiff])))
      | refine FW.nil ?_
      | refine FW.pass rfl rfl ?_
      | refine FW.go rfl ?_
      | refine CW.skip rfl rfl ?_
      | refine CW.step rfl rfl rfl rfl rfl ?_
      | ((first
        | (refine AWL.boxF (t := 26) rfl rfl rfl rfl rfl ?_)
        | (refine AWL.allocF (t := 26) rfl rfl rfl rfl rfl rfl ?_)
        | (refine CWr.allocF (t := 26) rfl rfl rfl ?_ ?_)
        | (refine AWL.op (sl := SL) rfl rfl ?_ ?_)
        | (refine FW.float rfl rfl rfl rfl rfl ?_)
        | (refine CWr.op rfl ?_ ?_ ?_)
        | (refine CWr.assign rfl ?_ ?_)
        | (refine CWr.alloc rfl rfl rfl rfl ?_)
        | (refine CWr.build rfl rfl rfl rfl ?_ rfl rfl rfl ?_)
        | (refine AWL.frzA rfl rfl ?_)
        | (refine AWL.callV (f := 34) rfl rfl rfl rfl ?_ (Nat.le_of_ble_eq_true rfl) rfl (rlanes_ok _) ?_; (focus kernel_rfl))
        | (refine AWL.call (f := 34) rfl rfl rfl ?_ rfl (Nat.le_of_ble_eq_true rfl) rfl (rlanes_ok _) ?_; (focus kernel_rfl))
        | (refine CWr.call (f := 34) rfl ?_ rfl (rlanes_ok _) (fun _ _ h => h) ?_ ?_ ?_; (focus kernel_rfl))
        | (refine AWL.callV (f := 31) rfl rfl rfl rfl ?_ (Nat.le_of_ble_eq_true rfl) rfl (rget_ok _ hl hb _ _) ?_; (focus kernel_rfl))
        | (refine AWL.call (f := 31) rfl rfl rfl ?_ rfl (Nat.le_of_ble_eq_true rfl) rfl (rget_ok _ hl hb _ _) ?_; (focus kernel_rfl))
        | (refine CWr.call (f := 31) rfl ?_ rfl (rget_ok _ hl hb _ _) (fun _ _ h => h) ?_ ?_ ?_; (focus kernel_rfl))
        | (refine AWL.callV (f := 35) rfl rfl rfl rfl ?_ (Nat.le_of_ble_eq_true rfl) rfl (sign_ok _ hgb.1 hgb.2 _ h0) ?_; (focus kernel_rfl))
        | (refine AWL.call (f := 35) rfl rfl rfl ?_ rfl (Nat.le_of_ble_eq_true rfl) rfl (sign_ok _ hgb.1 hgb.2 _ h0) ?_; (focus kernel_rfl))
        | (refine CWr.call (f := 35) rfl ?_ rfl (sign_ok _ hgb.1 hgb.2 _ h0) (fun _ _ h => h) ?_ ?_ ?_; (focus kernel_rfl))
        | fail) <;> (try ((first | show AWL _ _ _ _ _ | show AW _ _ _ _ | show FW _ _ _ _ _ _ _ _ _ _ | show CW _ _ _ _ _ _ _ _ _ _ _ _ | (rintro _ _ ⟨rfl, rfl⟩; (try refine And.intro rfl ?_))); (try (conv => arg -1; simp (disch := omega) only [NSX, Nat.reduceBEq, Nat.reduceAdd, Nat.reduceMul, Int.reduceToNat, Nat.reduceSub, TY, slx, take16, drop16, dz, nums_length, hl])))))
      | ((first | refine AWL.guard2 rfl rfl rfl rfl rfl rfl ?_ ?_ | refine CW.guard2 rfl rfl rfl rfl rfl rfl rfl rfl ?_ ?_) <;> (intro hc; (try simp only [Bool.not_true, Bool.not_false] at hc); first | (cases hc; done) | ((try simp only [hc]); (try simp only [beq_iff_eq, bne_iff_ne, decide_eq_true_eq, decide_eq_false_iff_not, beq_eq_false_iff_ne, bne_eq_false_iff_eq, ne_eq, Bool.not_eq_true, Bool.not_eq_false, Bool.not_eq_eq_eq_not, Bool.not_true, Bool.not_false, Decidable.not_not, Int.not_lt, Int.not_le] at hc); (try (exfalso; omega)); (try (guard_hyp hc : True; clear hc)))))
      | (refine AWL.guard2 rfl rfl rfl rfl rfl rfl (fun hc => ?_) ?_; (cases hc; done))
      | ((first | ((show AW _ (.region _ _ true) _ _); refine AW.calm false [] [] hmix (by (repeat' (first | exact panOk_end | exact panOk_endM | refine panOk_then ?_ | refine panOk_block ?_ | refine QEq.pan (by assumption) ?_))) ?_ rfl ?_; (focus (as_aux_lemma => kernel_rfl))) | refine AWL.guardU rfl rfl rfl rfl rfl rfl ?_ | refine CW.guardU rfl rfl rfl rfl rfl rfl rfl rfl ?_); (try (conv => arg -1; simp (disch := omega) only [NSX, Nat.reduceBEq, Nat.reduceAdd, Nat.reduceMul, Int.reduceToNat, Nat.reduceSub, TY, slx, take16, drop16, dz, nums_length, hl])))
      | refine CW.tail rfl ?_
      | (refine AW.cond rfl (fun hc => ?_) (fun hc => ?_) <;> first | (cases hc; done) | ((try simp only [beq_iff_eq, bne_iff_ne, decide_eq_true_eq, decide_eq_false_iff_not, beq_eq_false_iff_ne, bne_eq_false_iff_eq, ne_eq, Bool.not_eq_true, Bool.not_eq_false, Bool.not_eq_eq_eq_not, Bool.not_true, Bool.not_false, Decidable.not_not, Int.not_lt, Int.not_le] at hc); (try (exfalso; omega)); (try (guard_hyp hc : True; clear hc))))
      | ((refine EndQ.mk rfl rfl rfl ?_ ?_ ?_; (focus (first | exact Or.inl rfl | exact Or.inr rfl))) <;> (try simp (disch := omega) only [NSX, Nat.reduceBEq, Nat.reduceAdd, Nat.reduceMul, Int.reduceToNat, Nat.reduceSub, TY, slx, take16, drop16, dz, nums_length, hl]))
      | (focus ((first | exact trivial | omega | (refine And.intro (by kernel_rfl) (And.intro ⟨_, (by first | exact nums_ints _ _ | rfl), (by first | exact nums_ints _ _ | rfl)⟩ (And.intro ?_ ?_)) <;> (first | rfl | assumption | (simp only [nums_length]; omega) | omega)) | (refine And.intro ?_ (And.intro ?_ ?_); (focus kernel_rfl); (focus kernel_rfl); (focus kernel_rfl)) | ((show newKs _ _ _ = true); kernel_rfl) | ((show FitV _ _ _ _ _ _); (repeat' (first | exact trivial | exact Or.inr (Or.inl rfl) | exact Or.inl rfl | exact Or.inr (Or.inr rfl) | refine And.intro ?_ ?_)); done) | assumption | ((first | refine ld_nums i3 _ _ ?_ | refine ld_nums i22 _ _ ?_ | refine ld_nums i5 _ _ ?_ | refine at_nums i3 _ _ ?_ | refine at_nums i22 _ _ ?_ | refine at_nums i5 _ _ ?_); first | assumption | omega | (simp only [List.length_append]; omega)) | (show _ ≤ _; omega) | (simp only [List.length_take, List.length_drop, List.length_append, List.length_cons, List.length_nil]; omega) | ((repeat' (first | exact trivial | exact rfl | exact Nat.le_of_ble_eq_true rfl | refine And.intro ?_ ?_ | fail)); done) | ((try simp (disch := omega) only [NSX, Nat.reduceBEq, Nat.reduceAdd, Nat.reduceMul, Int.reduceToNat, Nat.reduceSub, TY, slx, take16, drop16, dz, nums_length, hl]); (repeat' (first | exact trivial | exact rfl | exact ⟨_, _, rfl⟩ | exact ⟨_, rfl⟩ | exact Nat.le_of_ble_eq_true rfl | exact Nat.zero_lt_succ _ | omega | (simp only [nums_length, toB_len] at *; omega) | refine And.intro ?_ ?_ | fail)); done)); done))
      | fail)
    all_goals first | exact ⟨trivial, trivial⟩ | exact ⟨rfl, trivial⟩ | exact ⟨rfl, rfl⟩ | exact ⟨trivial, rfl⟩ | (exfalso; omega) | trace_state
end Go.Proofs.Ytgmhfbdmigfgbaa
