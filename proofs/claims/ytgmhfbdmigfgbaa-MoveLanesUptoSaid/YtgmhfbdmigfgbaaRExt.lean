/- the document's Extract, Replace. -/
import Derived.Test.YtgmhfbdmigfgbaaV5
import Derived.Test.YtgmhfbdmigfgbaaExt
import Derived.Test.YtgmhfbdmigfgbaaFind
import Derived.Test.YtgmhfbdmigfgbaaRSigned
import Derived.Test.YtgmhfbdmigfgbaaRGet
import Derived.Test.YtgmhfbdmigfgbaaRSet
namespace Go.Proofs.Ytgmhfbdmigfgbaa
set_option linter.unusedSimpArgs false
set_option linter.unusedVariables false
open Go Go.Abs
attribute [local irreducible] AW AWL AC FW CW CWr IntKind.wrap

theorem u64mod (x : Int) : (IntKind.u64.wrap x).tmod 4294967296 = x % 4294967296 := by
  rw [Int.tmod_eq_emod_of_nonneg (by rw [IntKind.wrap_u64]; omega), IntKind.wrap_u64]; omega
theorem q8 : IntKind.i64.wrap (Int.tdiv 128 8) = 16 := by decide +kernel
theorem q16 : IntKind.i64.wrap (Int.tdiv 128 16) = 8 := by decide +kernel
theorem q32 : IntKind.i64.wrap (Int.tdiv 128 32) = 4 := by decide +kernel
theorem q64 : IntKind.i64.wrap (Int.tdiv 128 64) = 2 := by decide +kernel
set_option maxHeartbeats 1600000 in
theorem rext_64789 (i : Int) (v : List Int) (hl : v.length = 16) (hb : bytes v) :
    AC Try.prog 13 [.int .i64 64789, .int .i64 i, .fagg (nums .u8 v)] (fun r m => r = .tup [.int .u64 (exS 64789 i v).1, .int .i64 (exS 64789 i v).2] ∧ m = []) := by
  have hx0 : True := trivial
  have hx1 : True := trivial
  have hf3 : True := trivial
  have hf1 := find_ok 64789 21 24 27 29 (by omega) (by omega) (by omega) (by omega)
  rw [show findS 64789 21 24 27 29 = 0 from by decide] at hf1
  have hf2 := find_ok 64789 22 25 27 29 (by omega) (by omega) (by omega) (by omega)
  rw [show findS 64789 22 25 27 29 = -1 from by decide] at hf2
  have hwid : AC Try.prog 28 [.int .i64 0] (fun r m => r = .int .i64 8 ∧ m = []) := width_ok 0 (by decide)
  have hu := u64mod (signed v 8 i)
  by_cases hbad : i < 0 ∨ i ≥ 16
  · have he : exS 64789 i v = (0, 1) := by
      unfold exS; rw [show extW 64789 = 8 from by decide, show ((lanes 8 : Nat) : Int) = 16 from by decide, if_pos (by omega)]
    rw [he]
    refine AC.enter Try.func13 rfl (Nat.le_of_ble_eq_true rfl) ?_
    simp only [Try.f13]
    have hchk : True := by simp only [TY, slx, take16, drop16, dz, nums_length, hl, q8, q16, q32, q64]
    repeat' (first
      | (refine AWL.opN (sl := SL) rfl rfl rfl trivial ?_; (try (conv => arg -1; simp (disch := omega) only [NSX, Nat.reduceBEq, Nat.reduceAdd, Nat.reduceMul, Int.reduceToNat, Nat.reduceSub, TY, slx, take16, drop16, dz, nums_length, hl, q8, q16, q32, q64])))
      | (refine AW.seqQ ?_; intro Qn hQn)
      | (refine AW.blockQ ?_; intro Qn hQn)
      | refine AW.region ?_
      | ((first | refine AW.skip ?_ | refine AW.ret ?_ | refine AW.exit ?_ | refine AWL.nil ?_ | refine CW.nil ?_); (repeat (first | refine QEq.mp (by assumption) ?_ | simp only [thenQ, Go.Abs.blockQ, ↓reduceIte, Nat.reduceEqDiff])))
      | refine FW.nil ?_
      | refine FW.pass rfl rfl ?_
      | refine FW.go rfl ?_
      | refine CW.skip rfl rfl ?_
      | refine CW.step rfl rfl rfl rfl rfl ?_
      | ((first
        | (refine AWL.boxF (t := 26) rfl rfl rfl rfl rfl ?_)
        | (refine AWL.allocF (t := 26) rfl rfl rfl rfl rfl rfl ?_)
        | (refine CWr.allocF (t := 26) rfl rfl rfl ?_ ?_)
        | (refine AWL.op (sl := SL) rfl rfl ?_ ?_)
        | (refine FW.float rfl rfl rfl rfl rfl ?_)
        | (refine CWr.op rfl ?_ ?_ ?_)
        | (refine CWr.assign rfl ?_ ?_)
        | (refine CWr.alloc rfl rfl rfl rfl ?_)
        | (refine CWr.build rfl rfl rfl rfl ?_ rfl rfl rfl ?_)
        | (refine AWL.frzA rfl rfl ?_)
        | (refine AWL.callV (f := 27) rfl rfl rfl rfl ?_ (Nat.le_of_ble_eq_true rfl) rfl (hf1) ?_; (focus kernel_rfl))
        | (refine AWL.call (f := 27) rfl rfl rfl ?_ rfl (Nat.le_of_ble_eq_true rfl) rfl (hf1) ?_; (focus kernel_rfl))
        | (refine CWr.call (f := 27) rfl ?_ rfl (hf1) (fun _ _ h => h) ?_ ?_ ?_; (focus kernel_rfl))
        | (refine AWL.callV (f := 27) rfl rfl rfl rfl ?_ (Nat.le_of_ble_eq_true rfl) rfl (hf2) ?_; (focus kernel_rfl))
        | (refine AWL.call (f := 27) rfl rfl rfl ?_ rfl (Nat.le_of_ble_eq_true rfl) rfl (hf2) ?_; (focus kernel_rfl))
        | (refine CWr.call (f := 27) rfl ?_ rfl (hf2) (fun _ _ h => h) ?_ ?_ ?_; (focus kernel_rfl))
        | (refine AWL.callV (f := 27) rfl rfl rfl rfl ?_ (Nat.le_of_ble_eq_true rfl) rfl (hf3) ?_; (focus kernel_rfl))
        | (refine AWL.call (f := 27) rfl rfl rfl ?_ rfl (Nat.le_of_ble_eq_true rfl) rfl (hf3) ?_; (focus kernel_rfl))
        | (refine CWr.call (f := 27) rfl ?_ rfl (hf3) (fun _ _ h => h) ?_ ?_ ?_; (focus kernel_rfl))
        | (refine AWL.callV (f := 28) rfl rfl rfl rfl ?_ (Nat.le_of_ble_eq_true rfl) rfl (hwid) ?_; (focus kernel_rfl))
        | (refine AWL.call (f := 28) rfl rfl rfl ?_ rfl (Nat.le_of_ble_eq_true rfl) rfl (hwid) ?_; (focus kernel_rfl))
        | (refine CWr.call (f := 28) rfl ?_ rfl (hwid) (fun _ _ h => h) ?_ ?_ ?_; (focus kernel_rfl))
        | (refine AWL.callV (f := 30) rfl rfl rfl rfl ?_ (Nat.le_of_ble_eq_true rfl) rfl (rsigned_ok _ hl hb _ _) ?_; (focus kernel_rfl))
        | (refine AWL.call (f := 30) rfl rfl rfl ?_ rfl (Nat.le_of_ble_eq_true rfl) rfl (rsigned_ok _ hl hb _ _) ?_; (focus kernel_rfl))
        | (refine CWr.call (f := 30) rfl ?_ rfl (rsigned_ok _ hl hb _ _) (fun _ _ h => h) ?_ ?_ ?_; (focus kernel_rfl))
        | (refine AWL.callV (f := 31) rfl rfl rfl rfl ?_ (Nat.le_of_ble_eq_true rfl) rfl (rget_ok _ hl hb _ _) ?_; (focus kernel_rfl))
        | (refine AWL.call (f := 31) rfl rfl rfl ?_ rfl (Nat.le_of_ble_eq_true rfl) rfl (rget_ok _ hl hb _ _) ?_; (focus kernel_rfl))
        | (refine CWr.call (f := 31) rfl ?_ rfl (rget_ok _ hl hb _ _) (fun _ _ h => h) ?_ ?_ ?_; (focus kernel_rfl))
        | (refine AWL.callV (f := 32) rfl rfl rfl rfl ?_ (Nat.le_of_ble_eq_true rfl) rfl (rset_ok _ hl hb _ _ _ hx0 hx1) ?_; (focus kernel_rfl))
        | (refine AWL.call (f := 32) rfl rfl rfl ?_ rfl (Nat.le_of_ble_eq_true rfl) rfl (rset_ok _ hl hb _ _ _ hx0 hx1) ?_; (focus kernel_rfl))
        | (refine CWr.call (f := 32) rfl ?_ rfl (rset_ok _ hl hb _ _ _ hx0 hx1) (fun _ _ h => h) ?_ ?_ ?_; (focus kernel_rfl))
        | fail) <;> (try ((first | show AWL _ _ _ _ _ | show AW _ _ _ _ | show FW _ _ _ _ _ _ _ _ _ _ | show CW _ _ _ _ _ _ _ _ _ _ _ _ | (rintro _ _ ⟨rfl, rfl⟩; (try refine And.intro rfl ?_))); (try (conv => arg -1; simp (disch := omega) only [NSX, Nat.reduceBEq, Nat.reduceAdd, Nat.reduceMul, Int.reduceToNat, Nat.reduceSub, TY, slx, take16, drop16, dz, nums_length, hl, q8, q16, q32, q64])))))
      | ((first | refine AWL.guard2 rfl rfl rfl rfl rfl rfl ?_ ?_ | refine CW.guard2 rfl rfl rfl rfl rfl rfl rfl rfl ?_ ?_) <;> (intro hc; (try simp only [Bool.not_true, Bool.not_false] at hc); first | (cases hc; done) | ((try simp only [hc]); (try simp only [beq_iff_eq, bne_iff_ne, decide_eq_true_eq, decide_eq_false_iff_not, beq_eq_false_iff_ne, bne_eq_false_iff_eq, ne_eq, Bool.not_eq_true, Bool.not_eq_false, Bool.not_eq_eq_eq_not, Bool.not_true, Bool.not_false, Decidable.not_not, Int.not_lt, Int.not_le] at hc); (try (exfalso; omega)); (try (guard_hyp hc : True; clear hc)))))
      | (refine AWL.guard2 rfl rfl rfl rfl rfl rfl (fun hc => ?_) ?_; (cases hc; done))
      | ((first | ((show AW _ (.region _ _ true) _ _); refine AW.calm false [] [] hmix (by (repeat' (first | exact panOk_end | exact panOk_endM | refine panOk_then ?_ | refine panOk_block ?_ | refine QEq.pan (by assumption) ?_))) ?_ rfl ?_; (focus (as_aux_lemma => kernel_rfl))) | refine AWL.guardU rfl rfl rfl rfl rfl rfl ?_ | refine CW.guardU rfl rfl rfl rfl rfl rfl rfl rfl ?_); (try (conv => arg -1; simp (disch := omega) only [NSX, Nat.reduceBEq, Nat.reduceAdd, Nat.reduceMul, Int.reduceToNat, Nat.reduceSub, TY, slx, take16, drop16, dz, nums_length, hl, q8, q16, q32, q64])))
      | refine CW.tail rfl ?_
      | (refine AW.cond rfl (fun hc => ?_) (fun hc => ?_) <;> first | (cases hc; done) | ((try simp only [beq_iff_eq, bne_iff_ne, decide_eq_true_eq, decide_eq_false_iff_not, beq_eq_false_iff_ne, bne_eq_false_iff_eq, ne_eq, Bool.not_eq_true, Bool.not_eq_false, Bool.not_eq_eq_eq_not, Bool.not_true, Bool.not_false, Decidable.not_not, Int.not_lt, Int.not_le] at hc); (try (exfalso; omega)); (try (guard_hyp hc : True; clear hc))))
      | ((refine EndQ.mk rfl rfl rfl ?_ ?_ ?_; (focus (first | exact Or.inl rfl | exact Or.inr rfl))) <;> (try simp (disch := omega) only [NSX, Nat.reduceBEq, Nat.reduceAdd, Nat.reduceMul, Int.reduceToNat, Nat.reduceSub, TY, slx, take16, drop16, dz, nums_length, hl, q8, q16, q32, q64]))
      | (focus ((first | exact trivial | omega | (refine And.intro (by kernel_rfl) (And.intro ⟨_, (by first | exact nums_ints _ _ | rfl), (by first | exact nums_ints _ _ | rfl)⟩ (And.intro ?_ ?_)) <;> (first | rfl | assumption | (simp only [nums_length]; omega) | omega)) | (refine And.intro ?_ (And.intro ?_ ?_); (focus kernel_rfl); (focus kernel_rfl); (focus kernel_rfl)) | ((show newKs _ _ _ = true); kernel_rfl) | ((show FitV _ _ _ _ _ _); (repeat' (first | exact trivial | exact Or.inr (Or.inl rfl) | exact Or.inl rfl | exact Or.inr (Or.inr rfl) | refine And.intro ?_ ?_)); done) | assumption | ((first | refine ld_nums i3 _ _ ?_ | refine ld_nums i22 _ _ ?_ | refine ld_nums i5 _ _ ?_ | refine at_nums i3 _ _ ?_ | refine at_nums i22 _ _ ?_ | refine at_nums i5 _ _ ?_); first | assumption | omega | (simp only [List.length_append]; omega)) | (show _ ≤ _; omega) | (simp only [List.length_take, List.length_drop, List.length_append, List.length_cons, List.length_nil]; omega) | ((repeat' (first | exact trivial | exact rfl | exact Nat.le_of_ble_eq_true rfl | refine And.intro ?_ ?_ | fail)); done) | ((try simp (disch := omega) only [NSX, Nat.reduceBEq, Nat.reduceAdd, Nat.reduceMul, Int.reduceToNat, Nat.reduceSub, TY, slx, take16, drop16, dz, nums_length, hl, q8, q16, q32, q64]); (repeat' (first | exact trivial | exact rfl | exact ⟨_, _, rfl⟩ | exact ⟨_, rfl⟩ | exact Nat.le_of_ble_eq_true rfl | exact Nat.zero_lt_succ _ | omega | (simp only [nums_length, toB_len] at *; omega) | refine And.intro ?_ ?_ | fail)); done)); done))
      | fail)
    all_goals first | exact ⟨trivial, trivial⟩ | exact ⟨rfl, trivial⟩ | exact ⟨rfl, rfl⟩ | exact ⟨trivial, rfl⟩ | (exfalso; omega) | trace_state
  · have he : exS 64789 i v = (signed v 8 i % 4294967296, 0) := by
      unfold exS; rw [show extW 64789 = 8 from by decide, show ((lanes 8 : Nat) : Int) = 16 from by decide, if_neg (by omega), if_pos (by decide)]
    rw [he]
    refine AC.enter Try.func13 rfl (Nat.le_of_ble_eq_true rfl) ?_
    simp only [Try.f13]
    have hchk : True := by simp only [TY, slx, take16, drop16, dz, nums_length, hl, hu, q8, q16, q32, q64]
    repeat' (first
      | (refine AWL.opN (sl := SL) rfl rfl rfl trivial ?_; (try (conv => arg -1; simp (disch := omega) only [NSX, Nat.reduceBEq, Nat.reduceAdd, Nat.reduceMul, Int.reduceToNat, Nat.reduceSub, TY, slx, take16, drop16, dz, nums_length, hl, hu, q8, q16, q32, q64])))
      | (refine AW.seqQ ?_; intro Qn hQn)
      | (refine AW.blockQ ?_; intro Qn hQn)
      | refine AW.region ?_
      | ((first | refine AW.skip ?_ | refine AW.ret ?_ | refine AW.exit ?_ | refine AWL.nil ?_ | refine CW.nil ?_); (repeat (first | refine QEq.mp (by assumption) ?_ | simp only [thenQ, Go.Abs.blockQ, ↓reduceIte, Nat.reduceEqDiff])))
      | refine FW.nil ?_
      | refine FW.pass rfl rfl ?_
      | refine FW.go rfl ?_
      | refine CW.skip rfl rfl ?_
      | refine CW.step rfl rfl rfl rfl rfl ?_
      | ((first
        | (refine AWL.boxF (t := 26) rfl rfl rfl rfl rfl ?_)
        | (refine AWL.allocF (t := 26) rfl rfl rfl rfl rfl rfl ?_)
        | (refine CWr.allocF (t := 26) rfl rfl rfl ?_ ?_)
        | (refine AWL.op (sl := SL) rfl rfl ?_ ?_)
        | (refine FW.float rfl rfl rfl rfl rfl ?_)
        | (refine CWr.op rfl ?_ ?_ ?_)
        | (refine CWr.assign rfl ?_ ?_)
        | (refine CWr.alloc rfl rfl rfl rfl ?_)
        | (refine CWr.build rfl rfl rfl rfl ?_ rfl rfl rfl ?_)
        | (refine AWL.frzA rfl rfl ?_)
        | (refine AWL.callV (f := 27) rfl rfl rfl rfl ?_ (Nat.le_of_ble_eq_true rfl) rfl (hf1) ?_; (focus kernel_rfl))
        | (refine AWL.call (f := 27) rfl rfl rfl ?_ rfl (Nat.le_of_ble_eq_true rfl) rfl (hf1) ?_; (focus kernel_rfl))
        | (refine CWr.call (f := 27) rfl ?_ rfl (hf1) (fun _ _ h => h) ?_ ?_ ?_; (focus kernel_rfl))
        | (refine AWL.callV (f := 27) rfl rfl rfl rfl ?_ (Nat.le_of_ble_eq_true rfl) rfl (hf2) ?_; (focus kernel_rfl))
        | (refine AWL.call (f := 27) rfl rfl rfl ?_ rfl (Nat.le_of_ble_eq_true rfl) rfl (hf2) ?_; (focus kernel_rfl))
        | (refine CWr.call (f := 27) rfl ?_ rfl (hf2) (fun _ _ h => h) ?_ ?_ ?_; (focus kernel_rfl))
        | (refine AWL.callV (f := 27) rfl rfl rfl rfl ?_ (Nat.le_of_ble_eq_true rfl) rfl (hf3) ?_; (focus kernel_rfl))
        | (refine AWL.call (f := 27) rfl rfl rfl ?_ rfl (Nat.le_of_ble_eq_true rfl) rfl (hf3) ?_; (focus kernel_rfl))
        | (refine CWr.call (f := 27) rfl ?_ rfl (hf3) (fun _ _ h => h) ?_ ?_ ?_; (focus kernel_rfl))
        | (refine AWL.callV (f := 28) rfl rfl rfl rfl ?_ (Nat.le_of_ble_eq_true rfl) rfl (hwid) ?_; (focus kernel_rfl))
        | (refine AWL.call (f := 28) rfl rfl rfl ?_ rfl (Nat.le_of_ble_eq_true rfl) rfl (hwid) ?_; (focus kernel_rfl))
        | (refine CWr.call (f := 28) rfl ?_ rfl (hwid) (fun _ _ h => h) ?_ ?_ ?_; (focus kernel_rfl))
        | (refine AWL.callV (f := 30) rfl rfl rfl rfl ?_ (Nat.le_of_ble_eq_true rfl) rfl (rsigned_ok _ hl hb _ _) ?_; (focus kernel_rfl))
        | (refine AWL.call (f := 30) rfl rfl rfl ?_ rfl (Nat.le_of_ble_eq_true rfl) rfl (rsigned_ok _ hl hb _ _) ?_; (focus kernel_rfl))
        | (refine CWr.call (f := 30) rfl ?_ rfl (rsigned_ok _ hl hb _ _) (fun _ _ h => h) ?_ ?_ ?_; (focus kernel_rfl))
        | (refine AWL.callV (f := 31) rfl rfl rfl rfl ?_ (Nat.le_of_ble_eq_true rfl) rfl (rget_ok _ hl hb _ _) ?_; (focus kernel_rfl))
        | (refine AWL.call (f := 31) rfl rfl rfl ?_ rfl (Nat.le_of_ble_eq_true rfl) rfl (rget_ok _ hl hb _ _) ?_; (focus kernel_rfl))
        | (refine CWr.call (f := 31) rfl ?_ rfl (rget_ok _ hl hb _ _) (fun _ _ h => h) ?_ ?_ ?_; (focus kernel_rfl))
        | (refine AWL.callV (f := 32) rfl rfl rfl rfl ?_ (Nat.le_of_ble_eq_true rfl) rfl (rset_ok _ hl hb _ _ _ hx0 hx1) ?_; (focus kernel_rfl))
        | (refine AWL.call (f := 32) rfl rfl rfl ?_ rfl (Nat.le_of_ble_eq_true rfl) rfl (rset_ok _ hl hb _ _ _ hx0 hx1) ?_; (focus kernel_rfl))
        | (refine CWr.call (f := 32) rfl ?_ rfl (rset_ok _ hl hb _ _ _ hx0 hx1) (fun _ _ h => h) ?_ ?_ ?_; (focus kernel_rfl))
        | fail) <;> (try ((first | show AWL _ _ _ _ _ | show AW _ _ _ _ | show FW _ _ _ _ _ _ _ _ _ _ | show CW _ _ _ _ _ _ _ _ _ _ _ _ | (rintro _ _ ⟨rfl, rfl⟩; (try refine And.intro rfl ?_))); (try (conv => arg -1; simp (disch := omega) only [NSX, Nat.reduceBEq, Nat.reduceAdd, Nat.reduceMul, Int.reduceToNat, Nat.reduceSub, TY, slx, take16, drop16, dz, nums_length, hl, hu, q8, q16, q32, q64])))))
      | ((first | refine AWL.guard2 rfl rfl rfl rfl rfl rfl ?_ ?_ | refine CW.guard2 rfl rfl rfl rfl rfl rfl rfl rfl ?_ ?_) <;> (intro hc; (try simp only [Bool.not_true, Bool.not_false] at hc); first | (cases hc; done) | ((try simp only [hc]); (try simp only [beq_iff_eq, bne_iff_ne, decide_eq_true_eq, decide_eq_false_iff_not, beq_eq_false_iff_ne, bne_eq_false_iff_eq, ne_eq, Bool.not_eq_true, Bool.not_eq_false, Bool.not_eq_eq_eq_not, Bool.not_true, Bool.not_false, Decidable.not_not, Int.not_lt, Int.not_le] at hc); (try (exfalso; omega)); (try (guard_hyp hc : True; clear hc)))))
      | (refine AWL.guard2 rfl rfl rfl rfl rfl rfl (fun hc => ?_) ?_; (cases hc; done))
      | ((first | ((show AW _ (.region _ _ true) _ _); refine AW.calm false [] [] hmix (by (repeat' (first | exact panOk_end | exact panOk_endM | refine panOk_then ?_ | refine panOk_block ?_ | refine QEq.pan (by assumption) ?_))) ?_ rfl ?_; (focus (as_aux_lemma => kernel_rfl))) | refine AWL.guardU rfl rfl rfl rfl rfl rfl ?_ | refine CW.guardU rfl rfl rfl rfl rfl rfl rfl rfl ?_); (try (conv => arg -1; simp (disch := omega) only [NSX, Nat.reduceBEq, Nat.reduceAdd, Nat.reduceMul, Int.reduceToNat, Nat.reduceSub, TY, slx, take16, drop16, dz, nums_length, hl, hu, q8, q16, q32, q64])))
      | refine CW.tail rfl ?_
      | (refine AW.cond rfl (fun hc => ?_) (fun hc => ?_) <;> first | (cases hc; done) | ((try simp only [beq_iff_eq, bne_iff_ne, decide_eq_true_eq, decide_eq_false_iff_not, beq_eq_false_iff_ne, bne_eq_false_iff_eq, ne_eq, Bool.not_eq_true, Bool.not_eq_false, Bool.not_eq_eq_eq_not, Bool.not_true, Bool.not_false, Decidable.not_not, Int.not_lt, Int.not_le] at hc); (try (exfalso; omega)); (try (guard_hyp hc : True; clear hc))))
      | ((refine EndQ.mk rfl rfl rfl ?_ ?_ ?_; (focus (first | exact Or.inl rfl | exact Or.inr rfl))) <;> (try simp (disch := omega) only [NSX, Nat.reduceBEq, Nat.reduceAdd, Nat.reduceMul, Int.reduceToNat, Nat.reduceSub, TY, slx, take16, drop16, dz, nums_length, hl, hu, q8, q16, q32, q64]))
      | (focus ((first | exact trivial | omega | (refine And.intro (by kernel_rfl) (And.intro ⟨_, (by first | exact nums_ints _ _ | rfl), (by first | exact nums_ints _ _ | rfl)⟩ (And.intro ?_ ?_)) <;> (first | rfl | assumption | (simp only [nums_length]; omega) | omega)) | (refine And.intro ?_ (And.intro ?_ ?_); (focus kernel_rfl); (focus kernel_rfl); (focus kernel_rfl)) | ((show newKs _ _ _ = true); kernel_rfl) | ((show FitV _ _ _ _ _ _); (repeat' (first | exact trivial | exact Or.inr (Or.inl rfl) | exact Or.inl rfl | exact Or.inr (Or.inr rfl) | refine And.intro ?_ ?_)); done) | assumption | ((first | refine ld_nums i3 _ _ ?_ | refine ld_nums i22 _ _ ?_ | refine ld_nums i5 _ _ ?_ | refine at_nums i3 _ _ ?_ | refine at_nums i22 _ _ ?_ | refine at_nums i5 _ _ ?_); first | assumption | omega | (simp only [List.length_append]; omega)) | (show _ ≤ _; omega) | (simp only [List.length_take, List.length_drop, List.length_append, List.length_cons, List.length_nil]; omega) | ((repeat' (first | exact trivial | exact rfl | exact Nat.le_of_ble_eq_true rfl | refine And.intro ?_ ?_ | fail)); done) | ((try simp (disch := omega) only [NSX, Nat.reduceBEq, Nat.reduceAdd, Nat.reduceMul, Int.reduceToNat, Nat.reduceSub, TY, slx, take16, drop16, dz, nums_length, hl, hu, q8, q16, q32, q64]); (repeat' (first | exact trivial | exact rfl | exact ⟨_, _, rfl⟩ | exact ⟨_, rfl⟩ | exact Nat.le_of_ble_eq_true rfl | exact Nat.zero_lt_succ _ | omega | (simp only [nums_length, toB_len] at *; omega) | refine And.intro ?_ ?_ | fail)); done)); done))
      | fail)
    all_goals first | exact ⟨trivial, trivial⟩ | exact ⟨rfl, trivial⟩ | exact ⟨rfl, rfl⟩ | exact ⟨trivial, rfl⟩ | (exfalso; omega) | trace_state
set_option maxHeartbeats 1600000 in
theorem rext_64790 (i : Int) (v : List Int) (hl : v.length = 16) (hb : bytes v) :
    AC Try.prog 13 [.int .i64 64790, .int .i64 i, .fagg (nums .u8 v)] (fun r m => r = .tup [.int .u64 (exS 64790 i v).1, .int .i64 (exS 64790 i v).2] ∧ m = []) := by
  have hx0 : True := trivial
  have hx1 : True := trivial
  have hf3 : True := trivial
  have hf1 := find_ok 64790 21 24 27 29 (by omega) (by omega) (by omega) (by omega)
  rw [show findS 64790 21 24 27 29 = -1 from by decide] at hf1
  have hf2 := find_ok 64790 22 25 27 29 (by omega) (by omega) (by omega) (by omega)
  rw [show findS 64790 22 25 27 29 = 0 from by decide] at hf2
  have hwid : AC Try.prog 28 [.int .i64 0] (fun r m => r = .int .i64 8 ∧ m = []) := width_ok 0 (by decide)
  have hu := u64mod (signed v 8 i)
  by_cases hbad : i < 0 ∨ i ≥ 16
  · have he : exS 64790 i v = (0, 1) := by
      unfold exS; rw [show extW 64790 = 8 from by decide, show ((lanes 8 : Nat) : Int) = 16 from by decide, if_pos (by omega)]
    rw [he]
    refine AC.enter Try.func13 rfl (Nat.le_of_ble_eq_true rfl) ?_
    simp only [Try.f13]
    have hchk : True := by simp only [TY, slx, take16, drop16, dz, nums_length, hl, q8, q16, q32, q64]
    repeat' (first
      | (refine AWL.opN (sl := SL) rfl rfl rfl trivial ?_; (try (conv => arg -1; simp (disch := omega) only [NSX, Nat.reduceBEq, Nat.reduceAdd, Nat.reduceMul, Int.reduceToNat, Nat.reduceSub, TY, slx, take16, drop16, dz, nums_length, hl, q8, q16, q32, q64])))
      | (refine AW.seqQ ?_; intro Qn hQn)
      | (refine AW.blockQ ?_; intro Qn hQn)
      | refine AW.region ?_
      | ((first | refine AW.skip ?_ | refine AW.ret ?_ | refine AW.exit ?_ | refine AWL.nil ?_ | refine CW.nil ?_); (repeat (first | refine QEq.mp (by assumption) ?_ | simp only [thenQ, Go.Abs.blockQ, ↓reduceIte, Nat.reduceEqDiff])))
      | refine FW.nil ?_
      | refine FW.pass rfl rfl ?_
      | refine FW.go rfl ?_
      | refine CW.skip rfl rfl ?_
      | refine CW.step rfl rfl rfl rfl rfl ?_
      | ((first
        | (refine AWL.boxF (t := 26) rfl rfl rfl rfl rfl ?_)
        | (refine AWL.allocF (t := 26) rfl rfl rfl rfl rfl rfl ?_)
        | (refine CWr.allocF (t := 26) rfl rfl rfl ?_ ?_)
        | (refine AWL.op (sl := SL) rfl rfl ?_ ?_)
        | (refine FW.float rfl rfl rfl rfl rfl ?_)
        | (refine CWr.op rfl ?_ ?_ ?_)
        | (refine CWr.assign rfl ?_ ?_)
        | (refine CWr.alloc rfl rfl rfl rfl ?_)
        | (refine CWr.build rfl rfl rfl rfl ?_ rfl rfl rfl ?_)
        | (refine AWL.frzA rfl rfl ?_)
        | (refine AWL.callV (f := 27) rfl rfl rfl rfl ?_ (Nat.le_of_ble_eq_true rfl) rfl (hf1) ?_; (focus kernel_rfl))
        | (refine AWL.call (f := 27) rfl rfl rfl ?_ rfl (Nat.le_of_ble_eq_true rfl) rfl (hf1) ?_; (focus kernel_rfl))
        | (refine CWr.call (f := 27) rfl ?_ rfl (hf1) (fun _ _ h => h) ?_ ?_ ?_; (focus kernel_rfl))
        | (refine AWL.callV (f := 27) rfl rfl rfl rfl ?_ (Nat.le_of_ble_eq_true rfl) rfl (hf2) ?_; (focus kernel_rfl))
        | (refine AWL.call (f := 27) rfl rfl rfl ?_ rfl (Nat.le_of_ble_eq_true rfl) rfl (hf2) ?_; (focus kernel_rfl))
        | (refine CWr.call (f := 27) rfl ?_ rfl (hf2) (fun _ _ h => h) ?_ ?_ ?_; (focus kernel_rfl))
        | (refine AWL.callV (f := 27) rfl rfl rfl rfl ?_ (Nat.le_of_ble_eq_true rfl) rfl (hf3) ?_; (focus kernel_rfl))
        | (refine AWL.call (f := 27) rfl rfl rfl ?_ rfl (Nat.le_of_ble_eq_true rfl) rfl (hf3) ?_; (focus kernel_rfl))
        | (refine CWr.call (f := 27) rfl ?_ rfl (hf3) (fun _ _ h => h) ?_ ?_ ?_; (focus kernel_rfl))
        | (refine AWL.callV (f := 28) rfl rfl rfl rfl ?_ (Nat.le_of_ble_eq_true rfl) rfl (hwid) ?_; (focus kernel_rfl))
        | (refine AWL.call (f := 28) rfl rfl rfl ?_ rfl (Nat.le_of_ble_eq_true rfl) rfl (hwid) ?_; (focus kernel_rfl))
        | (refine CWr.call (f := 28) rfl ?_ rfl (hwid) (fun _ _ h => h) ?_ ?_ ?_; (focus kernel_rfl))
        | (refine AWL.callV (f := 30) rfl rfl rfl rfl ?_ (Nat.le_of_ble_eq_true rfl) rfl (rsigned_ok _ hl hb _ _) ?_; (focus kernel_rfl))
        | (refine AWL.call (f := 30) rfl rfl rfl ?_ rfl (Nat.le_of_ble_eq_true rfl) rfl (rsigned_ok _ hl hb _ _) ?_; (focus kernel_rfl))
        | (refine CWr.call (f := 30) rfl ?_ rfl (rsigned_ok _ hl hb _ _) (fun _ _ h => h) ?_ ?_ ?_; (focus kernel_rfl))
        | (refine AWL.callV (f := 31) rfl rfl rfl rfl ?_ (Nat.le_of_ble_eq_true rfl) rfl (rget_ok _ hl hb _ _) ?_; (focus kernel_rfl))
        | (refine AWL.call (f := 31) rfl rfl rfl ?_ rfl (Nat.le_of_ble_eq_true rfl) rfl (rget_ok _ hl hb _ _) ?_; (focus kernel_rfl))
        | (refine CWr.call (f := 31) rfl ?_ rfl (rget_ok _ hl hb _ _) (fun _ _ h => h) ?_ ?_ ?_; (focus kernel_rfl))
        | (refine AWL.callV (f := 32) rfl rfl rfl rfl ?_ (Nat.le_of_ble_eq_true rfl) rfl (rset_ok _ hl hb _ _ _ hx0 hx1) ?_; (focus kernel_rfl))
        | (refine AWL.call (f := 32) rfl rfl rfl ?_ rfl (Nat.le_of_ble_eq_true rfl) rfl (rset_ok _ hl hb _ _ _ hx0 hx1) ?_; (focus kernel_rfl))
        | (refine CWr.call (f := 32) rfl ?_ rfl (rset_ok _ hl hb _ _ _ hx0 hx1) (fun _ _ h => h) ?_ ?_ ?_; (focus kernel_rfl))
        | fail) <;> (try ((first | show AWL _ _ _ _ _ | show AW _ _ _ _ | show FW _ _ _ _ _ _ _ _ _ _ | show CW _ _ _ _ _ _ _ _ _ _ _ _ | (rintro _ _ ⟨rfl, rfl⟩; (try refine And.intro rfl ?_))); (try (conv => arg -1; simp (disch := omega) only [NSX, Nat.reduceBEq, Nat.reduceAdd, Nat.reduceMul, Int.reduceToNat, Nat.reduceSub, TY, slx, take16, drop16, dz, nums_length, hl, q8, q16, q32, q64])))))
      | ((first | refine AWL.guard2 rfl rfl rfl rfl rfl rfl ?_ ?_ | refine CW.guard2 rfl rfl rfl rfl rfl rfl rfl rfl ?_ ?_) <;> (intro hc; (try simp only [Bool.not_true, Bool.not_false] at hc); first | (cases hc; done) | ((try simp only [hc]); (try simp only [beq_iff_eq, bne_iff_ne, decide_eq_true_eq, decide_eq_false_iff_not, beq_eq_false_iff_ne, bne_eq_false_iff_eq, ne_eq, Bool.not_eq_true, Bool.not_eq_false, Bool.not_eq_eq_eq_not, Bool.not_true, Bool.not_false, Decidable.not_not, Int.not_lt, Int.not_le] at hc); (try (exfalso; omega)); (try (guard_hyp hc : True; clear hc)))))
      | (refine AWL.guard2 rfl rfl rfl rfl rfl rfl (fun hc => ?_) ?_; (cases hc; done))
      | ((first | ((show AW _ (.region _ _ true) _ _); refine AW.calm false [] [] hmix (by (repeat' (first | exact panOk_end | exact panOk_endM | refine panOk_then ?_ | refine panOk_block ?_ | refine QEq.pan (by assumption) ?_))) ?_ rfl ?_; (focus (as_aux_lemma => kernel_rfl))) | refine AWL.guardU rfl rfl rfl rfl rfl rfl ?_ | refine CW.guardU rfl rfl rfl rfl rfl rfl rfl rfl ?_); (try (conv => arg -1; simp (disch := omega) only [NSX, Nat.reduceBEq, Nat.reduceAdd, Nat.reduceMul, Int.reduceToNat, Nat.reduceSub, TY, slx, take16, drop16, dz, nums_length, hl, q8, q16, q32, q64])))
      | refine CW.tail rfl ?_
      | (refine AW.cond rfl (fun hc => ?_) (fun hc => ?_) <;> first | (cases hc; done) | ((try simp only [beq_iff_eq, bne_iff_ne, decide_eq_true_eq, decide_eq_false_iff_not, beq_eq_false_iff_ne, bne_eq_false_iff_eq, ne_eq, Bool.not_eq_true, Bool.not_eq_false, Bool.not_eq_eq_eq_not, Bool.not_true, Bool.not_false, Decidable.not_not, Int.not_lt, Int.not_le] at hc); (try (exfalso; omega)); (try (guard_hyp hc : True; clear hc))))
      | ((refine EndQ.mk rfl rfl rfl ?_ ?_ ?_; (focus (first | exact Or.inl rfl | exact Or.inr rfl))) <;> (try simp (disch := omega) only [NSX, Nat.reduceBEq, Nat.reduceAdd, Nat.reduceMul, Int.reduceToNat, Nat.reduceSub, TY, slx, take16, drop16, dz, nums_length, hl, q8, q16, q32, q64]))
      | (focus ((first | exact trivial | omega | (refine And.intro (by kernel_rfl) (And.intro ⟨_, (by first | exact nums_ints _ _ | rfl), (by first | exact nums_ints _ _ | rfl)⟩ (And.intro ?_ ?_)) <;> (first | rfl | assumption | (simp only [nums_length]; omega) | omega)) | (refine And.intro ?_ (And.intro ?_ ?_); (focus kernel_rfl); (focus kernel_rfl); (focus kernel_rfl)) | ((show newKs _ _ _ = true); kernel_rfl) | ((show FitV _ _ _ _ _ _); (repeat' (first | exact trivial | exact Or.inr (Or.inl rfl) | exact Or.inl rfl | exact Or.inr (Or.inr rfl) | refine And.intro ?_ ?_)); done) | assumption | ((first | refine ld_nums i3 _ _ ?_ | refine ld_nums i22 _ _ ?_ | refine ld_nums i5 _ _ ?_ | refine at_nums i3 _ _ ?_ | refine at_nums i22 _ _ ?_ | refine at_nums i5 _ _ ?_); first | assumption | omega | (simp only [List.length_append]; omega)) | (show _ ≤ _; omega) | (simp only [List.length_take, List.length_drop, List.length_append, List.length_cons, List.length_nil]; omega) | ((repeat' (first | exact trivial | exact rfl | exact Nat.le_of_ble_eq_true rfl | refine And.intro ?_ ?_ | fail)); done) | ((try simp (disch := omega) only [NSX, Nat.reduceBEq, Nat.reduceAdd, Nat.reduceMul, Int.reduceToNat, Nat.reduceSub, TY, slx, take16, drop16, dz, nums_length, hl, q8, q16, q32, q64]); (repeat' (first | exact trivial | exact rfl | exact ⟨_, _, rfl⟩ | exact ⟨_, rfl⟩ | exact Nat.le_of_ble_eq_true rfl | exact Nat.zero_lt_succ _ | omega | (simp only [nums_length, toB_len] at *; omega) | refine And.intro ?_ ?_ | fail)); done)); done))
      | fail)
    all_goals first | exact ⟨trivial, trivial⟩ | exact ⟨rfl, trivial⟩ | exact ⟨rfl, rfl⟩ | exact ⟨trivial, rfl⟩ | (exfalso; omega) | trace_state
  · have he : exS 64790 i v = (get v 8 i, 0) := by
      unfold exS; rw [show extW 64790 = 8 from by decide, show ((lanes 8 : Nat) : Int) = 16 from by decide, if_neg (by omega), if_neg (by decide)]
    rw [he]
    refine AC.enter Try.func13 rfl (Nat.le_of_ble_eq_true rfl) ?_
    simp only [Try.f13]
    have hchk : True := by simp only [TY, slx, take16, drop16, dz, nums_length, hl, hu, q8, q16, q32, q64]
    repeat' (first
      | (refine AWL.opN (sl := SL) rfl rfl rfl trivial ?_; (try (conv => arg -1; simp (disch := omega) only [NSX, Nat.reduceBEq, Nat.reduceAdd, Nat.reduceMul, Int.reduceToNat, Nat.reduceSub, TY, slx, take16, drop16, dz, nums_length, hl, hu, q8, q16, q32, q64])))
      | (refine AW.seqQ ?_; intro Qn hQn)
      | (refine AW.blockQ ?_; intro Qn hQn)
      | refine AW.region ?_
      | ((first | refine AW.skip ?_ | refine AW.ret ?_ | refine AW.exit ?_ | refine AWL.nil ?_ | refine CW.nil ?_); (repeat (first | refine QEq.mp (by assumption) ?_ | simp only [thenQ, Go.Abs.blockQ, ↓reduceIte, Nat.reduceEqDiff])))
      | refine FW.nil ?_
      | refine FW.pass rfl rfl ?_
      | refine FW.go rfl ?_
      | refine CW.skip rfl rfl ?_
      | refine CW.step rfl rfl rfl rfl rfl ?_
      | ((first
        | (refine AWL.boxF (t := 26) rfl rfl rfl rfl rfl ?_)
        | (refine AWL.allocF (t := 26) rfl rfl rfl rfl rfl rfl ?_)
        | (refine CWr.allocF (t := 26) rfl rfl rfl ?_ ?_)
        | (refine AWL.op (sl := SL) rfl rfl ?_ ?_)
        | (refine FW.float rfl rfl rfl rfl rfl ?_)
        | (refine CWr.op rfl ?_ ?_ ?_)
        | (refine CWr.assign rfl ?_ ?_)
        | (refine CWr.alloc rfl rfl rfl rfl ?_)
        | (refine CWr.build rfl rfl rfl rfl ?_ rfl rfl rfl ?_)
        | (refine AWL.frzA rfl rfl ?_)
        | (refine AWL.callV (f := 27) rfl rfl rfl rfl ?_ (Nat.le_of_ble_eq_true rfl) rfl (hf1) ?_; (focus kernel_rfl))
        | (refine AWL.call (f := 27) rfl rfl rfl ?_ rfl (Nat.le_of_ble_eq_true rfl) rfl (hf1) ?_; (focus kernel_rfl))
        | (refine CWr.call (f := 27) rfl ?_ rfl (hf1) (fun _ _ h => h) ?_ ?_ ?_; (focus kernel_rfl))
        | (refine AWL.callV (f := 27) rfl rfl rfl rfl ?_ (Nat.le_of_ble_eq_true rfl) rfl (hf2) ?_; (focus kernel_rfl))
        | (refine AWL.call (f := 27) rfl rfl rfl ?_ rfl (Nat.le_of_ble_eq_true rfl) rfl (hf2) ?_; (focus kernel_rfl))
        | (refine CWr.call (f := 27) rfl ?_ rfl (hf2) (fun _ _ h => h) ?_ ?_ ?_; (focus kernel_rfl))
        | (refine AWL.callV (f := 27) rfl rfl rfl rfl ?_ (Nat.le_of_ble_eq_true rfl) rfl (hf3) ?_; (focus kernel_rfl))
        | (refine AWL.call (f := 27) rfl rfl rfl ?_ rfl (Nat.le_of_ble_eq_true rfl) rfl (hf3) ?_; (focus kernel_rfl))
        | (refine CWr.call (f := 27) rfl ?_ rfl (hf3) (fun _ _ h => h) ?_ ?_ ?_; (focus kernel_rfl))
        | (refine AWL.callV (f := 28) rfl rfl rfl rfl ?_ (Nat.le_of_ble_eq_true rfl) rfl (hwid) ?_; (focus kernel_rfl))
        | (refine AWL.call (f := 28) rfl rfl rfl ?_ rfl (Nat.le_of_ble_eq_true rfl) rfl (hwid) ?_; (focus kernel_rfl))
        | (refine CWr.call (f := 28) rfl ?_ rfl (hwid) (fun _ _ h => h) ?_ ?_ ?_; (focus kernel_rfl))
        | (refine AWL.callV (f := 30) rfl rfl rfl rfl ?_ (Nat.le_of_ble_eq_true rfl) rfl (rsigned_ok _ hl hb _ _) ?_; (focus kernel_rfl))
        | (refine AWL.call (f := 30) rfl rfl rfl ?_ rfl (Nat.le_of_ble_eq_true rfl) rfl (rsigned_ok _ hl hb _ _) ?_; (focus kernel_rfl))
        | (refine CWr.call (f := 30) rfl ?_ rfl (rsigned_ok _ hl hb _ _) (fun _ _ h => h) ?_ ?_ ?_; (focus kernel_rfl))
        | (refine AWL.callV (f := 31) rfl rfl rfl rfl ?_ (Nat.le_of_ble_eq_true rfl) rfl (rget_ok _ hl hb _ _) ?_; (focus kernel_rfl))
        | (refine AWL.call (f := 31) rfl rfl rfl ?_ rfl (Nat.le_of_ble_eq_true rfl) rfl (rget_ok _ hl hb _ _) ?_; (focus kernel_rfl))
        | (refine CWr.call (f := 31) rfl ?_ rfl (rget_ok _ hl hb _ _) (fun _ _ h => h) ?_ ?_ ?_; (focus kernel_rfl))
        | (refine AWL.callV (f := 32) rfl rfl rfl rfl ?_ (Nat.le_of_ble_eq_true rfl) rfl (rset_ok _ hl hb _ _ _ hx0 hx1) ?_; (focus kernel_rfl))
        | (refine AWL.call (f := 32) rfl rfl rfl ?_ rfl (Nat.le_of_ble_eq_true rfl) rfl (rset_ok _ hl hb _ _ _ hx0 hx1) ?_; (focus kernel_rfl))
        | (refine CWr.call (f := 32) rfl ?_ rfl (rset_ok _ hl hb _ _ _ hx0 hx1) (fun _ _ h => h) ?_ ?_ ?_; (focus kernel_rfl))
        | fail) <;> (try ((first | show AWL _ _ _ _ _ | show AW _ _ _ _ | show FW _ _ _ _ _ _ _ _ _ _ | show CW _ _ _ _ _ _ _ _ _ _ _ _ | (rintro _ _ ⟨rfl, rfl⟩; (try refine And.intro rfl ?_))); (try (conv => arg -1; simp (disch := omega) only [NSX, Nat.reduceBEq, Nat.reduceAdd, Nat.reduceMul, Int.reduceToNat, Nat.reduceSub, TY, slx, take16, drop16, dz, nums_length, hl, hu, q8, q16, q32, q64])))))
      | ((first | refine AWL.guard2 rfl rfl rfl rfl rfl rfl ?_ ?_ | refine CW.guard2 rfl rfl rfl rfl rfl rfl rfl rfl ?_ ?_) <;> (intro hc; (try simp only [Bool.not_true, Bool.not_false] at hc); first | (cases hc; done) | ((try simp only [hc]); (try simp only [beq_iff_eq, bne_iff_ne, decide_eq_true_eq, decide_eq_false_iff_not, beq_eq_false_iff_ne, bne_eq_false_iff_eq, ne_eq, Bool.not_eq_true, Bool.not_eq_false, Bool.not_eq_eq_eq_not, Bool.not_true, Bool.not_false, Decidable.not_not, Int.not_lt, Int.not_le] at hc); (try (exfalso; omega)); (try (guard_hyp hc : True; clear hc)))))
      | (refine AWL.guard2 rfl rfl rfl rfl rfl rfl (fun hc => ?_) ?_; (cases hc; done))
      | ((first | ((show AW _ (.region _ _ true) _ _); refine AW.calm false [] [] hmix (by (repeat' (first | exact panOk_end | exact panOk_endM | refine panOk_then ?_ | refine panOk_block ?_ | refine QEq.pan (by assumption) ?_))) ?_ rfl ?_; (focus (as_aux_lemma => kernel_rfl))) | refine AWL.guardU rfl rfl rfl rfl rfl rfl ?_ | refine CW.guardU rfl rfl rfl rfl rfl rfl rfl rfl ?_); (try (conv => arg -1; simp (disch := omega) only [NSX, Nat.reduceBEq, Nat.reduceAdd, Nat.reduceMul, Int.reduceToNat, Nat.reduceSub, TY, slx, take16, drop16, dz, nums_length, hl, hu, q8, q16, q32, q64])))
      | refine CW.tail rfl ?_
      | (refine AW.cond rfl (fun hc => ?_) (fun hc => ?_) <;> first | (cases hc; done) | ((try simp only [beq_iff_eq, bne_iff_ne, decide_eq_true_eq, decide_eq_false_iff_not, beq_eq_false_iff_ne, bne_eq_false_iff_eq, ne_eq, Bool.not_eq_true, Bool.not_eq_false, Bool.not_eq_eq_eq_not, Bool.not_true, Bool.not_false, Decidable.not_not, Int.not_lt, Int.not_le] at hc); (try (exfalso; omega)); (try (guard_hyp hc : True; clear hc))))
      | ((refine EndQ.mk rfl rfl rfl ?_ ?_ ?_; (focus (first | exact Or.inl rfl | exact Or.inr rfl))) <;> (try simp (disch := omega) only [NSX, Nat.reduceBEq, Nat.reduceAdd, Nat.reduceMul, Int.reduceToNat, Nat.reduceSub, TY, slx, take16, drop16, dz, nums_length, hl, hu, q8, q16, q32, q64]))
      | (focus ((first | exact trivial | omega | (refine And.intro (by kernel_rfl) (And.intro ⟨_, (by first | exact nums_ints _ _ | rfl), (by first | exact nums_ints _ _ | rfl)⟩ (And.intro ?_ ?_)) <;> (first | rfl | assumption | (simp only [nums_length]; omega) | omega)) | (refine And.intro ?_ (And.intro ?_ ?_); (focus kernel_rfl); (focus kernel_rfl); (focus kernel_rfl)) | ((show newKs _ _ _ = true); kernel_rfl) | ((show FitV _ _ _ _ _ _); (repeat' (first | exact trivial | exact Or.inr (Or.inl rfl) | exact Or.inl rfl | exact Or.inr (Or.inr rfl) | refine And.intro ?_ ?_)); done) | assumption | ((first | refine ld_nums i3 _ _ ?_ | refine ld_nums i22 _ _ ?_ | refine ld_nums i5 _ _ ?_ | refine at_nums i3 _ _ ?_ | refine at_nums i22 _ _ ?_ | refine at_nums i5 _ _ ?_); first | assumption | omega | (simp only [List.length_append]; omega)) | (show _ ≤ _; omega) | (simp only [List.length_take, List.length_drop, List.length_append, List.length_cons, List.length_nil]; omega) | ((repeat' (first | exact trivial | exact rfl | exact Nat.le_of_ble_eq_true rfl | refine And.intro ?_ ?_ | fail)); done) | ((try simp (disch := omega) only [NSX, Nat.reduceBEq, Nat.reduceAdd, Nat.reduceMul, Int.reduceToNat, Nat.reduceSub, TY, slx, take16, drop16, dz, nums_length, hl, hu, q8, q16, q32, q64]); (repeat' (first | exact trivial | exact rfl | exact ⟨_, _, rfl⟩ | exact ⟨_, rfl⟩ | exact Nat.le_of_ble_eq_true rfl | exact Nat.zero_lt_succ _ | omega | (simp only [nums_length, toB_len] at *; omega) | refine And.intro ?_ ?_ | fail)); done)); done))
      | fail)
    all_goals first | exact ⟨trivial, trivial⟩ | exact ⟨rfl, trivial⟩ | exact ⟨rfl, rfl⟩ | exact ⟨trivial, rfl⟩ | (exfalso; omega) | trace_state
set_option maxHeartbeats 1600000 in
theorem rext_64792 (i : Int) (v : List Int) (hl : v.length = 16) (hb : bytes v) :
    AC Try.prog 13 [.int .i64 64792, .int .i64 i, .fagg (nums .u8 v)] (fun r m => r = .tup [.int .u64 (exS 64792 i v).1, .int .i64 (exS 64792 i v).2] ∧ m = []) := by
  have hx0 : True := trivial
  have hx1 : True := trivial
  have hf3 : True := trivial
  have hf1 := find_ok 64792 21 24 27 29 (by omega) (by omega) (by omega) (by omega)
  rw [show findS 64792 21 24 27 29 = 1 from by decide] at hf1
  have hf2 := find_ok 64792 22 25 27 29 (by omega) (by omega) (by omega) (by omega)
  rw [show findS 64792 22 25 27 29 = -1 from by decide] at hf2
  have hwid : AC Try.prog 28 [.int .i64 1] (fun r m => r = .int .i64 16 ∧ m = []) := width_ok 1 (by decide)
  have hu := u64mod (signed v 16 i)
  by_cases hbad : i < 0 ∨ i ≥ 8
  · have he : exS 64792 i v = (0, 1) := by
      unfold exS; rw [show extW 64792 = 16 from by decide, show ((lanes 16 : Nat) : Int) = 8 from by decide, if_pos (by omega)]
    rw [he]
    refine AC.enter Try.func13 rfl (Nat.le_of_ble_eq_true rfl) ?_
    simp only [Try.f13]
    have hchk : True := by simp only [TY, slx, take16, drop16, dz, nums_length, hl, q8, q16, q32, q64]
    repeat' (first
      | (refine AWL.opN (sl := SL) rfl rfl rfl trivial ?_; (try (conv => arg -1; simp (disch := omega) only [NSX, Nat.reduceBEq, Nat.reduceAdd, Nat.reduceMul, Int.reduceToNat, Nat.reduceSub, TY, slx, take16, drop16, dz, nums_length, hl, q8, q16, q32, q64])))
      | (refine AW.seqQ ?_; intro Qn hQn)
      | (refine AW.blockQ ?_; intro Qn hQn)
      | refine AW.region ?_
      | ((first | refine AW.skip ?_ | refine AW.ret ?_ | refine AW.exit ?_ | refine AWL.nil ?_ | refine CW.nil ?_); (repeat (first | refine QEq.mp (by assumption) ?_ | simp only [thenQ, Go.Abs.blockQ, ↓reduceIte, Nat.reduceEqDiff])))
      | refine FW.nil ?_
      | refine FW.pass rfl rfl ?_
      | refine FW.go rfl ?_
      | refine CW.skip rfl rfl ?_
      | refine CW.step rfl rfl rfl rfl rfl ?_
      | ((first
        | (refine AWL.boxF (t := 26) rfl rfl rfl rfl rfl ?_)
        | (refine AWL.allocF (t := 26) rfl rfl rfl rfl rfl rfl ?_)
        | (refine CWr.allocF (t := 26) rfl rfl rfl ?_ ?_)
        | (refine AWL.op (sl := SL) rfl rfl ?_ ?_)
        | (refine FW.float rfl rfl rfl rfl rfl ?_)
        | (refine CWr.op rfl ?_ ?_ ?_)
        | (refine CWr.assign rfl ?_ ?_)
        | (refine CWr.alloc rfl rfl rfl rfl ?_)
        | (refine CWr.build rfl rfl rfl rfl ?_ rfl rfl rfl ?_)
        | (refine AWL.frzA rfl rfl ?_)
        | (refine AWL.callV (f := 27) rfl rfl rfl rfl ?_ (Nat.le_of_ble_eq_true rfl) rfl (hf1) ?_; (focus kernel_rfl))
        | (refine AWL.call (f := 27) rfl rfl rfl ?_ rfl (Nat.le_of_ble_eq_true rfl) rfl (hf1) ?_; (focus kernel_rfl))
        | (refine CWr.call (f := 27) rfl ?_ rfl (hf1) (fun _ _ h => h) ?_ ?_ ?_; (focus kernel_rfl))
        | (refine AWL.callV (f := 27) rfl rfl rfl rfl ?_ (Nat.le_of_ble_eq_true rfl) rfl (hf2) ?_; (focus kernel_rfl))
        | (refine AWL.call (f := 27) rfl rfl rfl ?_ rfl (Nat.le_of_ble_eq_true rfl) rfl (hf2) ?_; (focus kernel_rfl))
        | (refine CWr.call (f := 27) rfl ?_ rfl (hf2) (fun _ _ h => h) ?_ ?_ ?_; (focus kernel_rfl))
        | (refine AWL.callV (f := 27) rfl rfl rfl rfl ?_ (Nat.le_of_ble_eq_true rfl) rfl (hf3) ?_; (focus kernel_rfl))
        | (refine AWL.call (f := 27) rfl rfl rfl ?_ rfl (Nat.le_of_ble_eq_true rfl) rfl (hf3) ?_; (focus kernel_rfl))
        | (refine CWr.call (f := 27) rfl ?_ rfl (hf3) (fun _ _ h => h) ?_ ?_ ?_; (focus kernel_rfl))
        | (refine AWL.callV (f := 28) rfl rfl rfl rfl ?_ (Nat.le_of_ble_eq_true rfl) rfl (hwid) ?_; (focus kernel_rfl))
        | (refine AWL.call (f := 28) rfl rfl rfl ?_ rfl (Nat.le_of_ble_eq_true rfl) rfl (hwid) ?_; (focus kernel_rfl))
        | (refine CWr.call (f := 28) rfl ?_ rfl (hwid) (fun _ _ h => h) ?_ ?_ ?_; (focus kernel_rfl))
        | (refine AWL.callV (f := 30) rfl rfl rfl rfl ?_ (Nat.le_of_ble_eq_true rfl) rfl (rsigned_ok _ hl hb _ _) ?_; (focus kernel_rfl))
        | (refine AWL.call (f := 30) rfl rfl rfl ?_ rfl (Nat.le_of_ble_eq_true rfl) rfl (rsigned_ok _ hl hb _ _) ?_; (focus kernel_rfl))
        | (refine CWr.call (f := 30) rfl ?_ rfl (rsigned_ok _ hl hb _ _) (fun _ _ h => h) ?_ ?_ ?_; (focus kernel_rfl))
        | (refine AWL.callV (f := 31) rfl rfl rfl rfl ?_ (Nat.le_of_ble_eq_true rfl) rfl (rget_ok _ hl hb _ _) ?_; (focus kernel_rfl))
        | (refine AWL.call (f := 31) rfl rfl rfl ?_ rfl (Nat.le_of_ble_eq_true rfl) rfl (rget_ok _ hl hb _ _) ?_; (focus kernel_rfl))
        | (refine CWr.call (f := 31) rfl ?_ rfl (rget_ok _ hl hb _ _) (fun _ _ h => h) ?_ ?_ ?_; (focus kernel_rfl))
        | (refine AWL.callV (f := 32) rfl rfl rfl rfl ?_ (Nat.le_of_ble_eq_true rfl) rfl (rset_ok _ hl hb _ _ _ hx0 hx1) ?_; (focus kernel_rfl))
        | (refine AWL.call (f := 32) rfl rfl rfl ?_ rfl (Nat.le_of_ble_eq_true rfl) rfl (rset_ok _ hl hb _ _ _ hx0 hx1) ?_; (focus kernel_rfl))
        | (refine CWr.call (f := 32) rfl ?_ rfl (rset_ok _ hl hb _ _ _ hx0 hx1) (fun _ _ h => h) ?_ ?_ ?_; (focus kernel_rfl))
        | fail) <;> (try ((first | show AWL _ _ _ _ _ | show AW _ _ _ _ | show FW _ _ _ _ _ _ _ _ _ _ | show CW _ _ _ _ _ _ _ _ _ _ _ _ | (rintro _ _ ⟨rfl, rfl⟩; (try refine And.intro rfl ?_))); (try (conv => arg -1; simp (disch := omega) only [NSX, Nat.reduceBEq, Nat.reduceAdd, Nat.reduceMul, Int.reduceToNat, Nat.reduceSub, TY, slx, take16, drop16, dz, nums_length, hl, q8, q16, q32, q64])))))
      | ((first | refine AWL.guard2 rfl rfl rfl rfl rfl rfl ?_ ?_ | refine CW.guard2 rfl rfl rfl rfl rfl rfl rfl rfl ?_ ?_) <;> (intro hc; (try simp only [Bool.not_true, Bool.not_false] at hc); first | (cases hc; done) | ((try simp only [hc]); (try simp only [beq_iff_eq, bne_iff_ne, decide_eq_true_eq, decide_eq_false_iff_not, beq_eq_false_iff_ne, bne_eq_false_iff_eq, ne_eq, Bool.not_eq_true, Bool.not_eq_false, Bool.not_eq_eq_eq_not, Bool.not_true, Bool.not_false, Decidable.not_not, Int.not_lt, Int.not_le] at hc); (try (exfalso; omega)); (try (guard_hyp hc : True; clear hc)))))
      | (refine AWL.guard2 rfl rfl rfl rfl rfl rfl (fun hc => ?_) ?_; (cases hc; done))
      | ((first | ((show AW _ (.region _ _ true) _ _); refine AW.calm false [] [] hmix (by (repeat' (first | exact panOk_end | exact panOk_endM | refine panOk_then ?_ | refine panOk_block ?_ | refine QEq.pan (by assumption) ?_))) ?_ rfl ?_; (focus (as_aux_lemma => kernel_rfl))) | refine AWL.guardU rfl rfl rfl rfl rfl rfl ?_ | refine CW.guardU rfl rfl rfl rfl rfl rfl rfl rfl ?_); (try (conv => arg -1; simp (disch := omega) only [NSX, Nat.reduceBEq, Nat.reduceAdd, Nat.reduceMul, Int.reduceToNat, Nat.reduceSub, TY, slx, take16, drop16, dz, nums_length, hl, q8, q16, q32, q64])))
      | refine CW.tail rfl ?_
      | (refine AW.cond rfl (fun hc => ?_) (fun hc => ?_) <;> first | (cases hc; done) | ((try simp only [beq_iff_eq, bne_iff_ne, decide_eq_true_eq, decide_eq_false_iff_not, beq_eq_false_iff_ne, bne_eq_false_iff_eq, ne_eq, Bool.not_eq_true, Bool.not_eq_false, Bool.not_eq_eq_eq_not, Bool.not_true, Bool.not_false, Decidable.not_not, Int.not_lt, Int.not_le] at hc); (try (exfalso; omega)); (try (guard_hyp hc : True; clear hc))))
      | ((refine EndQ.mk rfl rfl rfl ?_ ?_ ?_; (focus (first | exact Or.inl rfl | exact Or.inr rfl))) <;> (try simp (disch := omega) only [NSX, Nat.reduceBEq, Nat.reduceAdd, Nat.reduceMul, Int.reduceToNat, Nat.reduceSub, TY, slx, take16, drop16, dz, nums_length, hl, q8, q16, q32, q64]))
      | (focus ((first | exact trivial | omega | (refine And.intro (by kernel_rfl) (And.intro ⟨_, (by first | exact nums_ints _ _ | rfl), (by first | exact nums_ints _ _ | rfl)⟩ (And.intro ?_ ?_)) <;> (first | rfl | assumption | (simp only [nums_length]; omega) | omega)) | (refine And.intro ?_ (And.intro ?_ ?_); (focus kernel_rfl); (focus kernel_rfl); (focus kernel_rfl)) | ((show newKs _ _ _ = true); kernel_rfl) | ((show FitV _ _ _ _ _ _); (repeat' (first | exact trivial | exact Or.inr (Or.inl rfl) | exact Or.inl rfl | exact Or.inr (Or.inr rfl) | refine And.intro ?_ ?_)); done) | assumption | ((first | refine ld_nums i3 _ _ ?_ | refine ld_nums i22 _ _ ?_ | refine ld_nums i5 _ _ ?_ | refine at_nums i3 _ _ ?_ | refine at_nums i22 _ _ ?_ | refine at_nums i5 _ _ ?_); first | assumption | omega | (simp only [List.length_append]; omega)) | (show _ ≤ _; omega) | (simp only [List.length_take, List.length_drop, List.length_append, List.length_cons, List.length_nil]; omega) | ((repeat' (first | exact trivial | exact rfl | exact Nat.le_of_ble_eq_true rfl | refine And.intro ?_ ?_ | fail)); done) | ((try simp (disch := omega) only [NSX, Nat.reduceBEq, Nat.reduceAdd, Nat.reduceMul, Int.reduceToNat, Nat.reduceSub, TY, slx, take16, drop16, dz, nums_length, hl, q8, q16, q32, q64]); (repeat' (first | exact trivial | exact rfl | exact ⟨_, _, rfl⟩ | exact ⟨_, rfl⟩ | exact Nat.le_of_ble_eq_true rfl | exact Nat.zero_lt_succ _ | omega | (simp only [nums_length, toB_len] at *; omega) | refine And.intro ?_ ?_ | fail)); done)); done))
      | fail)
    all_goals first | exact ⟨trivial, trivial⟩ | exact ⟨rfl, trivial⟩ | exact ⟨rfl, rfl⟩ | exact ⟨trivial, rfl⟩ | (exfalso; omega) | trace_state
  · have he : exS 64792 i v = (signed v 16 i % 4294967296, 0) := by
      unfold exS; rw [show extW 64792 = 16 from by decide, show ((lanes 16 : Nat) : Int) = 8 from by decide, if_neg (by omega), if_pos (by decide)]
    rw [he]
    refine AC.enter Try.func13 rfl (Nat.le_of_ble_eq_true rfl) ?_
    simp only [Try.f13]
    have hchk : True := by simp only [TY, slx, take16, drop16, dz, nums_length, hl, hu, q8, q16, q32, q64]
    repeat' (first
      | (refine AWL.opN (sl := SL) rfl rfl rfl trivial ?_; (try (conv => arg -1; simp (disch := omega) only [NSX, Nat.reduceBEq, Nat.reduceAdd, Nat.reduceMul, Int.reduceToNat, Nat.reduceSub, TY, slx, take16, drop16, dz, nums_length, hl, hu, q8, q16, q32, q64])))
      | (refine AW.seqQ ?_; intro Qn hQn)
      | (refine AW.blockQ ?_; intro Qn hQn)
      | refine AW.region ?_
      | ((first | refine AW.skip ?_ | refine AW.ret ?_ | refine AW.exit ?_ | refine AWL.nil ?_ | refine CW.nil ?_); (repeat (first | refine QEq.mp (by assumption) ?_ | simp only [thenQ, Go.Abs.blockQ, ↓reduceIte, Nat.reduceEqDiff])))
      | refine FW.nil ?_
      | refine FW.pass rfl rfl ?_
      | refine FW.go rfl ?_
      | refine CW.skip rfl rfl ?_
      | refine CW.step rfl rfl rfl rfl rfl ?_
      | ((first
        | (refine AWL.boxF (t := 26) rfl rfl rfl rfl rfl ?_)
        | (refine AWL.allocF (t := 26) rfl rfl rfl rfl rfl rfl ?_)
        | (refine CWr.allocF (t := 26) rfl rfl rfl ?_ ?_)
        | (refine AWL.op (sl := SL) rfl rfl ?_ ?_)
        | (refine FW.float rfl rfl rfl rfl rfl ?_)
        | (refine CWr.op rfl ?_ ?_ ?_)
        | (refine CWr.assign rfl ?_ ?_)
        | (refine CWr.alloc rfl rfl rfl rfl ?_)
        | (refine CWr.build rfl rfl rfl rfl ?_ rfl rfl rfl ?_)
        | (refine AWL.frzA rfl rfl ?_)
        | (refine AWL.callV (f := 27) rfl rfl rfl rfl ?_ (Nat.le_of_ble_eq_true rfl) rfl (hf1) ?_; (focus kernel_rfl))
        | (refine AWL.call (f := 27) rfl rfl rfl ?_ rfl (Nat.le_of_ble_eq_true rfl) rfl (hf1) ?_; (focus kernel_rfl))
        | (refine CWr.call (f := 27) rfl ?_ rfl (hf1) (fun _ _ h => h) ?_ ?_ ?_; (focus kernel_rfl))
        | (refine AWL.callV (f := 27) rfl rfl rfl rfl ?_ (Nat.le_of_ble_eq_true rfl) rfl (hf2) ?_; (focus kernel_rfl))
        | (refine AWL.call (f := 27) rfl rfl rfl ?_ rfl (Nat.le_of_ble_eq_true rfl) rfl (hf2) ?_; (focus kernel_rfl))
        | (refine CWr.call (f := 27) rfl ?_ rfl (hf2) (fun _ _ h => h) ?_ ?_ ?_; (focus kernel_rfl))
        | (refine AWL.callV (f := 27) rfl rfl rfl rfl ?_ (Nat.le_of_ble_eq_true rfl) rfl (hf3) ?_; (focus kernel_rfl))
        | (refine AWL.call (f := 27) rfl rfl rfl ?_ rfl (Nat.le_of_ble_eq_true rfl) rfl (hf3) ?_; (focus kernel_rfl))
        | (refine CWr.call (f := 27) rfl ?_ rfl (hf3) (fun _ _ h => h) ?_ ?_ ?_; (focus kernel_rfl))
        | (refine AWL.callV (f := 28) rfl rfl rfl rfl ?_ (Nat.le_of_ble_eq_true rfl) rfl (hwid) ?_; (focus kernel_rfl))
        | (refine AWL.call (f := 28) rfl rfl rfl ?_ rfl (Nat.le_of_ble_eq_true rfl) rfl (hwid) ?_; (focus kernel_rfl))
        | (refine CWr.call (f := 28) rfl ?_ rfl (hwid) (fun _ _ h => h) ?_ ?_ ?_; (focus kernel_rfl))
        | (refine AWL.callV (f := 30) rfl rfl rfl rfl ?_ (Nat.le_of_ble_eq_true rfl) rfl (rsigned_ok _ hl hb _ _) ?_; (focus kernel_rfl))
        | (refine AWL.call (f := 30) rfl rfl rfl ?_ rfl (Nat.le_of_ble_eq_true rfl) rfl (rsigned_ok _ hl hb _ _) ?_; (focus kernel_rfl))
        | (refine CWr.call (f := 30) rfl ?_ rfl (rsigned_ok _ hl hb _ _) (fun _ _ h => h) ?_ ?_ ?_; (focus kernel_rfl))
        | (refine AWL.callV (f := 31) rfl rfl rfl rfl ?_ (Nat.le_of_ble_eq_true rfl) rfl (rget_ok _ hl hb _ _) ?_; (focus kernel_rfl))
        | (refine AWL.call (f := 31) rfl rfl rfl ?_ rfl (Nat.le_of_ble_eq_true rfl) rfl (rget_ok _ hl hb _ _) ?_; (focus kernel_rfl))
        | (refine CWr.call (f := 31) rfl ?_ rfl (rget_ok _ hl hb _ _) (fun _ _ h => h) ?_ ?_ ?_; (focus kernel_rfl))
        | (refine AWL.callV (f := 32) rfl rfl rfl rfl ?_ (Nat.le_of_ble_eq_true rfl) rfl (rset_ok _ hl hb _ _ _ hx0 hx1) ?_; (focus kernel_rfl))
        | (refine AWL.call (f := 32) rfl rfl rfl ?_ rfl (Nat.le_of_ble_eq_true rfl) rfl (rset_ok _ hl hb _ _ _ hx0 hx1) ?_; (focus kernel_rfl))
        | (refine CWr.call (f := 32) rfl ?_ rfl (rset_ok _ hl hb _ _ _ hx0 hx1) (fun _ _ h => h) ?_ ?_ ?_; (focus kernel_rfl))
        | fail) <;> (try ((first | show AWL _ _ _ _ _ | show AW _ _ _ _ | show FW _ _ _ _ _ _ _ _ _ _ | show CW _ _ _ _ _ _ _ _ _ _ _ _ | (rintro _ _ ⟨rfl, rfl⟩; (try refine And.intro rfl ?_))); (try (conv => arg -1; simp (disch := omega) only [NSX, Nat.reduceBEq, Nat.reduceAdd, Nat.reduceMul, Int.reduceToNat, Nat.reduceSub, TY, slx, take16, drop16, dz, nums_length, hl, hu, q8, q16, q32, q64])))))
      | ((first | refine AWL.guard2 rfl rfl rfl rfl rfl rfl ?_ ?_ | refine CW.guard2 rfl rfl rfl rfl rfl rfl rfl rfl ?_ ?_) <;> (intro hc; (try simp only [Bool.not_true, Bool.not_false] at hc); first | (cases hc; done) | ((try simp only [hc]); (try simp only [beq_iff_eq, bne_iff_ne, decide_eq_true_eq, decide_eq_false_iff_not, beq_eq_false_iff_ne, bne_eq_false_iff_eq, ne_eq, Bool.not_eq_true, Bool.not_eq_false, Bool.not_eq_eq_eq_not, Bool.not_true, Bool.not_false, Decidable.not_not, Int.not_lt, Int.not_le] at hc); (try (exfalso; omega)); (try (guard_hyp hc : True; clear hc)))))
      | (refine AWL.guard2 rfl rfl rfl rfl rfl rfl (fun hc => ?_) ?_; (cases hc; done))
      | ((first | ((show AW _ (.region _ _ true) _ _); refine AW.calm false [] [] hmix (by (repeat' (first | exact panOk_end | exact panOk_endM | refine panOk_then ?_ | refine panOk_block ?_ | refine QEq.pan (by assumption) ?_))) ?_ rfl ?_; (focus (as_aux_lemma => kernel_rfl))) | refine AWL.guardU rfl rfl rfl rfl rfl rfl ?_ | refine CW.guardU rfl rfl rfl rfl rfl rfl rfl rfl ?_); (try (conv => arg -1; simp (disch := omega) only [NSX, Nat.reduceBEq, Nat.reduceAdd, Nat.reduceMul, Int.reduceToNat, Nat.reduceSub, TY, slx, take16, drop16, dz, nums_length, hl, hu, q8, q16, q32, q64])))
      | refine CW.tail rfl ?_
      | (refine AW.cond rfl (fun hc => ?_) (fun hc => ?_) <;> first | (cases hc; done) | ((try simp only [beq_iff_eq, bne_iff_ne, decide_eq_true_eq, decide_eq_false_iff_not, beq_eq_false_iff_ne, bne_eq_false_iff_eq, ne_eq, Bool.not_eq_true, Bool.not_eq_false, Bool.not_eq_eq_eq_not, Bool.not_true, Bool.not_false, Decidable.not_not, Int.not_lt, Int.not_le] at hc); (try (exfalso; omega)); (try (guard_hyp hc : True; clear hc))))
      | ((refine EndQ.mk rfl rfl rfl ?_ ?_ ?_; (focus (first | exact Or.inl rfl | exact Or.inr rfl))) <;> (try simp (disch := omega) only [NSX, Nat.reduceBEq, Nat.reduceAdd, Nat.reduceMul, Int.reduceToNat, Nat.reduceSub, TY, slx, take16, drop16, dz, nums_length, hl, hu, q8, q16, q32, q64]))
      | (focus ((first | exact trivial | omega | (refine And.intro (by kernel_rfl) (And.intro ⟨_, (by first | exact nums_ints _ _ | rfl), (by first | exact nums_ints _ _ | rfl)⟩ (And.intro ?_ ?_)) <;> (first | rfl | assumption | (simp only [nums_length]; omega) | omega)) | (refine And.intro ?_ (And.intro ?_ ?_); (focus kernel_rfl); (focus kernel_rfl); (focus kernel_rfl)) | ((show newKs _ _ _ = true); kernel_rfl) | ((show FitV _ _ _ _ _ _); (repeat' (first | exact trivial | exact Or.inr (Or.inl rfl) | exact Or.inl rfl | exact Or.inr (Or.inr rfl) | refine And.intro ?_ ?_)); done) | assumption | ((first | refine ld_nums i3 _ _ ?_ | refine ld_nums i22 _ _ ?_ | refine ld_nums i5 _ _ ?_ | refine at_nums i3 _ _ ?_ | refine at_nums i22 _ _ ?_ | refine at_nums i5 _ _ ?_); first | assumption | omega | (simp only [List.length_append]; omega)) | (show _ ≤ _; omega) | (simp only [List.length_take, List.length_drop, List.length_append, List.length_cons, List.length_nil]; omega) | ((repeat' (first | exact trivial | exact rfl | exact Nat.le_of_ble_eq_true rfl | refine And.intro ?_ ?_ | fail)); done) | ((try simp (disch := omega) only [NSX, Nat.reduceBEq, Nat.reduceAdd, Nat.reduceMul, Int.reduceToNat, Nat.reduceSub, TY, slx, take16, drop16, dz, nums_length, hl, hu, q8, q16, q32, q64]); (repeat' (first | exact trivial | exact rfl | exact ⟨_, _, rfl⟩ | exact ⟨_, rfl⟩ | exact Nat.le_of_ble_eq_true rfl | exact Nat.zero_lt_succ _ | omega | (simp only [nums_length, toB_len] at *; omega) | refine And.intro ?_ ?_ | fail)); done)); done))
      | fail)
    all_goals first | exact ⟨trivial, trivial⟩ | exact ⟨rfl, trivial⟩ | exact ⟨rfl, rfl⟩ | exact ⟨trivial, rfl⟩ | (exfalso; omega) | trace_state
set_option maxHeartbeats 1600000 in
theorem rext_64793 (i : Int) (v : List Int) (hl : v.length = 16) (hb : bytes v) :
    AC Try.prog 13 [.int .i64 64793, .int .i64 i, .fagg (nums .u8 v)] (fun r m => r = .tup [.int .u64 (exS 64793 i v).1, .int .i64 (exS 64793 i v).2] ∧ m = []) := by
  have hx0 : True := trivial
  have hx1 : True := trivial
  have hf3 : True := trivial
  have hf1 := find_ok 64793 21 24 27 29 (by omega) (by omega) (by omega) (by omega)
  rw [show findS 64793 21 24 27 29 = -1 from by decide] at hf1
  have hf2 := find_ok 64793 22 25 27 29 (by omega) (by omega) (by omega) (by omega)
  rw [show findS 64793 22 25 27 29 = 1 from by decide] at hf2
  have hwid : AC Try.prog 28 [.int .i64 1] (fun r m => r = .int .i64 16 ∧ m = []) := width_ok 1 (by decide)
  have hu := u64mod (signed v 16 i)
  by_cases hbad : i < 0 ∨ i ≥ 8
  · have he : exS 64793 i v = (0, 1) := by
      unfold exS; rw [show extW 64793 = 16 from by decide, show ((lanes 16 : Nat) : Int) = 8 from by decide, if_pos (by omega)]
    rw [he]
    refine AC.enter Try.func13 rfl (Nat.le_of_ble_eq_true rfl) ?_
    simp only [Try.f13]
    have hchk : True := by simp only [TY, slx, take16, drop16, dz, nums_length, hl, q8, q16, q32, q64]
    repeat' (first
      | (refine AWL.opN (sl := SL) rfl rfl rfl trivial ?_; (try (conv => arg -1; simp (disch := omega) only [NSX, Nat.reduceBEq, Nat.reduceAdd, Nat.reduceMul, Int.reduceToNat, Nat.reduceSub, TY, slx, take16, drop16, dz, nums_length, hl, q8, q16, q32, q64])))
      | (refine AW.seqQ ?_; intro Qn hQn)
      | (refine AW.blockQ ?_; intro Qn hQn)
      | refine AW.region ?_
      | ((first | refine AW.skip ?_ | refine AW.ret ?_ | refine AW.exit ?_ | refine AWL.nil ?_ | refine CW.nil ?_); (repeat (first | refine QEq.mp (by assumption) ?_ | simp only [thenQ, Go.Abs.blockQ, ↓reduceIte, Nat.reduceEqDiff])))
      | refine FW.nil ?_
      | refine FW.pass rfl rfl ?_
      | refine FW.go rfl ?_
      | refine CW.skip rfl rfl ?_
      | refine CW.step rfl rfl rfl rfl rfl ?_
      | ((first
        | (refine AWL.boxF (t := 26) rfl rfl rfl rfl rfl ?_)
        | (refine AWL.allocF (t := 26) rfl rfl rfl rfl rfl rfl ?_)
        | (refine CWr.allocF (t := 26) rfl rfl rfl ?_ ?_)
        | (refine AWL.op (sl := SL) rfl rfl ?_ ?_)
        | (refine FW.float rfl rfl rfl rfl rfl ?_)
        | (refine CWr.op rfl ?_ ?_ ?_)
        | (refine CWr.assign rfl ?_ ?_)
        | (refine CWr.alloc rfl rfl rfl rfl ?_)
        | (refine CWr.build rfl rfl rfl rfl ?_ rfl rfl rfl ?_)
        | (refine AWL.frzA rfl rfl ?_)
        | (refine AWL.callV (f := 27) rfl rfl rfl rfl ?_ (Nat.le_of_ble_eq_true rfl) rfl (hf1) ?_; (focus kernel_rfl))
        | (refine AWL.call (f := 27) rfl rfl rfl ?_ rfl (Nat.le_of_ble_eq_true rfl) rfl (hf1) ?_; (focus kernel_rfl))
        | (refine CWr.call (f := 27) rfl ?_ rfl (hf1) (fun _ _ h => h) ?_ ?_ ?_; (focus kernel_rfl))
        | (refine AWL.callV (f := 27) rfl rfl rfl rfl ?_ (Nat.le_of_ble_eq_true rfl) rfl (hf2) ?_; (focus kernel_rfl))
        | (refine AWL.call (f := 27) rfl rfl rfl ?_ rfl (Nat.le_of_ble_eq_true rfl) rfl (hf2) ?_; (focus kernel_rfl))
        | (refine CWr.call (f := 27) rfl ?_ rfl (hf2) (fun _ _ h => h) ?_ ?_ ?_; (focus kernel_rfl))
        | (refine AWL.callV (f := 27) rfl rfl rfl rfl ?_ (Nat.le_of_ble_eq_true rfl) rfl (hf3) ?_; (focus kernel_rfl))
        | (refine AWL.call (f := 27) rfl rfl rfl ?_ rfl (Nat.le_of_ble_eq_true rfl) rfl (hf3) ?_; (focus kernel_rfl))
        | (refine CWr.call (f := 27) rfl ?_ rfl (hf3) (fun _ _ h => h) ?_ ?_ ?_; (focus kernel_rfl))
        | (refine AWL.callV (f := 28) rfl rfl rfl rfl ?_ (Nat.le_of_ble_eq_true rfl) rfl (hwid) ?_; (focus kernel_rfl))
        | (refine AWL.call (f := 28) rfl rfl rfl ?_ rfl (Nat.le_of_ble_eq_true rfl) rfl (hwid) ?_; (focus kernel_rfl))
        | (refine CWr.call (f := 28) rfl ?_ rfl (hwid) (fun _ _ h => h) ?_ ?_ ?_; (focus kernel_rfl))
        | (refine AWL.callV (f := 30) rfl rfl rfl rfl ?_ (Nat.le_of_ble_eq_true rfl) rfl (rsigned_ok _ hl hb _ _) ?_; (focus kernel_rfl))
        | (refine AWL.call (f := 30) rfl rfl rfl ?_ rfl (Nat.le_of_ble_eq_true rfl) rfl (rsigned_ok _ hl hb _ _) ?_; (focus kernel_rfl))
        | (refine CWr.call (f := 30) rfl ?_ rfl (rsigned_ok _ hl hb _ _) (fun _ _ h => h) ?_ ?_ ?_; (focus kernel_rfl))
        | (refine AWL.callV (f := 31) rfl rfl rfl rfl ?_ (Nat.le_of_ble_eq_true rfl) rfl (rget_ok _ hl hb _ _) ?_; (focus kernel_rfl))
        | (refine AWL.call (f := 31) rfl rfl rfl ?_ rfl (Nat.le_of_ble_eq_true rfl) rfl (rget_ok _ hl hb _ _) ?_; (focus kernel_rfl))
        | (refine CWr.call (f := 31) rfl ?_ rfl (rget_ok _ hl hb _ _) (fun _ _ h => h) ?_ ?_ ?_; (focus kernel_rfl))
        | (refine AWL.callV (f := 32) rfl rfl rfl rfl ?_ (Nat.le_of_ble_eq_true rfl) rfl (rset_ok _ hl hb _ _ _ hx0 hx1) ?_; (focus kernel_rfl))
        | (refine AWL.call (f := 32) rfl rfl rfl ?_ rfl (Nat.le_of_ble_eq_true rfl) rfl (rset_ok _ hl hb _ _ _ hx0 hx1) ?_; (focus kernel_rfl))
        | (refine CWr.call (f := 32) rfl ?_ rfl (rset_ok _ hl hb _ _ _ hx0 hx1) (fun _ _ h => h) ?_ ?_ ?_; (focus kernel_rfl))
        | fail) <;> (try ((first | show AWL _ _ _ _ _ | show AW _ _ _ _ | show FW _ _ _ _ _ _ _ _ _ _ | show CW _ _ _ _ _ _ _ _ _ _ _ _ | (rintro _ _ ⟨rfl, rfl⟩; (try refine And.intro rfl ?_))); (try (conv => arg -1; simp (disch := omega) only [NSX, Nat.reduceBEq, Nat.reduceAdd, Nat.reduceMul, Int.reduceToNat, Nat.reduceSub, TY, slx, take16, drop16, dz, nums_length, hl, q8, q16, q32, q64])))))
      | ((first | refine AWL.guard2 rfl rfl rfl rfl rfl rfl ?_ ?_ | refine CW.guard2 rfl rfl rfl rfl rfl rfl rfl rfl ?_ ?_) <;> (intro hc; (try simp only [Bool.not_true, Bool.not_false] at hc); first | (cases hc; done) | ((try simp only [hc]); (try simp only [beq_iff_eq, bne_iff_ne, decide_eq_true_eq, decide_eq_false_iff_not, beq_eq_false_iff_ne, bne_eq_false_iff_eq, ne_eq, Bool.not_eq_true, Bool.not_eq_false, Bool.not_eq_eq_eq_not, Bool.not_true, Bool.not_false, Decidable.not_not, Int.not_lt, Int.not_le] at hc); (try (exfalso; omega)); (try (guard_hyp hc : True; clear hc)))))
      | (refine AWL.guard2 rfl rfl rfl rfl rfl rfl (fun hc => ?_) ?_; (cases hc; done))
      | ((first | ((show AW _ (.region _ _ true) _ _); refine AW.calm false [] [] hmix (by (repeat' (first | exact panOk_end | exact panOk_endM | refine panOk_then ?_ | refine panOk_block ?_ | refine QEq.pan (by assumption) ?_))) ?_ rfl ?_; (focus (as_aux_lemma => kernel_rfl))) | refine AWL.guardU rfl rfl rfl rfl rfl rfl ?_ | refine CW.guardU rfl rfl rfl rfl rfl rfl rfl rfl ?_); (try (conv => arg -1; simp (disch := omega) only [NSX, Nat.reduceBEq, Nat.reduceAdd, Nat.reduceMul, Int.reduceToNat, Nat.reduceSub, TY, slx, take16, drop16, dz, nums_length, hl, q8, q16, q32, q64])))
      | refine CW.tail rfl ?_
      | (refine AW.cond rfl (fun hc => ?_) (fun hc => ?_) <;> first | (cases hc; done) | ((try simp only [beq_iff_eq, bne_iff_ne, decide_eq_true_eq, decide_eq_false_iff_not, beq_eq_false_iff_ne, bne_eq_false_iff_eq, ne_eq, Bool.not_eq_true, Bool.not_eq_false, Bool.not_eq_eq_eq_not, Bool.not_true, Bool.not_false, Decidable.not_not, Int.not_lt, Int.not_le] at hc); (try (exfalso; omega)); (try (guard_hyp hc : True; clear hc))))
      | ((refine EndQ.mk rfl rfl rfl ?_ ?_ ?_; (focus (first | exact Or.inl rfl | exact Or.inr rfl))) <;> (try simp (disch := omega) only [NSX, Nat.reduceBEq, Nat.reduceAdd, Nat.reduceMul, Int.reduceToNat, Nat.reduceSub, TY, slx, take16, drop16, dz, nums_length, hl, q8, q16, q32, q64]))
      | (focus ((first | exact trivial | omega | (refine And.intro (by kernel_rfl) (And.intro ⟨_, (by first | exact nums_ints _ _ | rfl), (by first | exact nums_ints _ _ | rfl)⟩ (And.intro ?_ ?_)) <;> (first | rfl | assumption | (simp only [nums_length]; omega) | omega)) | (refine And.intro ?_ (And.intro ?_ ?_); (focus kernel_rfl); (focus kernel_rfl); (focus kernel_rfl)) | ((show newKs _ _ _ = true); kernel_rfl) | ((show FitV _ _ _ _ _ _); (repeat' (first | exact trivial | exact Or.inr (Or.inl rfl) | exact Or.inl rfl | exact Or.inr (Or.inr rfl) | refine And.intro ?_ ?_)); done) | assumption | ((first | refine ld_nums i3 _ _ ?_ | refine ld_nums i22 _ _ ?_ | refine ld_nums i5 _ _ ?_ | refine at_nums i3 _ _ ?_ | refine at_nums i22 _ _ ?_ | refine at_nums i5 _ _ ?_); first | assumption | omega | (simp only [List.length_append]; omega)) | (show _ ≤ _; omega) | (simp only [List.length_take, List.length_drop, List.length_append, List.length_cons, List.length_nil]; omega) | ((repeat' (first | exact trivial | exact rfl | exact Nat.le_of_ble_eq_true rfl | refine And.intro ?_ ?_ | fail)); done) | ((try simp (disch := omega) only [NSX, Nat.reduceBEq, Nat.reduceAdd, Nat.reduceMul, Int.reduceToNat, Nat.reduceSub, TY, slx, take16, drop16, dz, nums_length, hl, q8, q16, q32, q64]); (repeat' (first | exact trivial | exact rfl | exact ⟨_, _, rfl⟩ | exact ⟨_, rfl⟩ | exact Nat.le_of_ble_eq_true rfl | exact Nat.zero_lt_succ _ | omega | (simp only [nums_length, toB_len] at *; omega) | refine And.intro ?_ ?_ | fail)); done)); done))
      | fail)
    all_goals first | exact ⟨trivial, trivial⟩ | exact ⟨rfl, trivial⟩ | exact ⟨rfl, rfl⟩ | exact ⟨trivial, rfl⟩ | (exfalso; omega) | trace_state
  · have he : exS 64793 i v = (get v 16 i, 0) := by
      unfold exS; rw [show extW 64793 = 16 from by decide, show ((lanes 16 : Nat) : Int) = 8 from by decide, if_neg (by omega), if_neg (by decide)]
    rw [he]
    refine AC.enter Try.func13 rfl (Nat.le_of_ble_eq_true rfl) ?_
    simp only [Try.f13]
    have hchk : True := by simp only [TY, slx, take16, drop16, dz, nums_length, hl, hu, q8, q16, q32, q64]
    repeat' (first
      | (refine AWL.opN (sl := SL) rfl rfl rfl trivial ?_; (try (conv => arg -1; simp (disch := omega) only [NSX, Nat.reduceBEq, Nat.reduceAdd, Nat.reduceMul, Int.reduceToNat, Nat.reduceSub, TY, slx, take16, drop16, dz, nums_length, hl, hu, q8, q16, q32, q64])))
      | (refine AW.seqQ ?_; intro Qn hQn)
      | (refine AW.blockQ ?_; intro Qn hQn)
      | refine AW.region ?_
      | ((first | refine AW.skip ?_ | refine AW.ret ?_ | refine AW.exit ?_ | refine AWL.nil ?_ | refine CW.nil ?_); (repeat (first | refine QEq.mp (by assumption) ?_ | simp only [thenQ, Go.Abs.blockQ, ↓reduceIte, Nat.reduceEqDiff])))
      | refine FW.nil ?_
      | refine FW.pass rfl rfl ?_
      | refine FW.go rfl ?_
      | refine CW.skip rfl rfl ?_
      | refine CW.step rfl rfl rfl rfl rfl ?_
      | ((first
        | (refine AWL.boxF (t := 26) rfl rfl rfl rfl rfl ?_)
        | (refine AWL.allocF (t := 26) rfl rfl rfl rfl rfl rfl ?_)
        | (refine CWr.allocF (t := 26) rfl rfl rfl ?_ ?_)
        | (refine AWL.op (sl := SL) rfl rfl ?_ ?_)
        | (refine FW.float rfl rfl rfl rfl rfl ?_)
        | (refine CWr.op rfl ?_ ?_ ?_)
        | (refine CWr.assign rfl ?_ ?_)
        | (refine CWr.alloc rfl rfl rfl rfl ?_)
        | (refine CWr.build rfl rfl rfl rfl ?_ rfl rfl rfl ?_)
        | (refine AWL.frzA rfl rfl ?_)
        | (refine AWL.callV (f := 27) rfl rfl rfl rfl ?_ (Nat.le_of_ble_eq_true rfl) rfl (hf1) ?_; (focus kernel_rfl))
        | (refine AWL.call (f := 27) rfl rfl rfl ?_ rfl (Nat.le_of_ble_eq_true rfl) rfl (hf1) ?_; (focus kernel_rfl))
        | (refine CWr.call (f := 27) rfl ?_ rfl (hf1) (fun _ _ h => h) ?_ ?_ ?_; (focus kernel_rfl))
        | (refine AWL.callV (f := 27) rfl rfl rfl rfl ?_ (Nat.le_of_ble_eq_true rfl) rfl (hf2) ?_; (focus kernel_rfl))
        | (refine AWL.call (f := 27) rfl rfl rfl ?_ rfl (Nat.le_of_ble_eq_true rfl) rfl (hf2) ?_; (focus kernel_rfl))
        | (refine CWr.call (f := 27) rfl ?_ rfl (hf2) (fun _ _ h => h) ?_ ?_ ?_; (focus kernel_rfl))
        | (refine AWL.callV (f := 27) rfl rfl rfl rfl ?_ (Nat.le_of_ble_eq_true rfl) rfl (hf3) ?_; (focus kernel_rfl))
        | (refine AWL.call (f := 27) rfl rfl rfl ?_ rfl (Nat.le_of_ble_eq_true rfl) rfl (hf3) ?_; (focus kernel_rfl))
        | (refine CWr.call (f := 27) rfl ?_ rfl (hf3) (fun _ _ h => h) ?_ ?_ ?_; (focus kernel_rfl))
        | (refine AWL.callV (f := 28) rfl rfl rfl rfl ?_ (Nat.le_of_ble_eq_true rfl) rfl (hwid) ?_; (focus kernel_rfl))
        | (refine AWL.call (f := 28) rfl rfl rfl ?_ rfl (Nat.le_of_ble_eq_true rfl) rfl (hwid) ?_; (focus kernel_rfl))
        | (refine CWr.call (f := 28) rfl ?_ rfl (hwid) (fun _ _ h => h) ?_ ?_ ?_; (focus kernel_rfl))
        | (refine AWL.callV (f := 30) rfl rfl rfl rfl ?_ (Nat.le_of_ble_eq_true rfl) rfl (rsigned_ok _ hl hb _ _) ?_; (focus kernel_rfl))
        | (refine AWL.call (f := 30) rfl rfl rfl ?_ rfl (Nat.le_of_ble_eq_true rfl) rfl (rsigned_ok _ hl hb _ _) ?_; (focus kernel_rfl))
        | (refine CWr.call (f := 30) rfl ?_ rfl (rsigned_ok _ hl hb _ _) (fun _ _ h => h) ?_ ?_ ?_; (focus kernel_rfl))
        | (refine AWL.callV (f := 31) rfl rfl rfl rfl ?_ (Nat.le_of_ble_eq_true rfl) rfl (rget_ok _ hl hb _ _) ?_; (focus kernel_rfl))
        | (refine AWL.call (f := 31) rfl rfl rfl ?_ rfl (Nat.le_of_ble_eq_true rfl) rfl (rget_ok _ hl hb _ _) ?_; (focus kernel_rfl))
        | (refine CWr.call (f := 31) rfl ?_ rfl (rget_ok _ hl hb _ _) (fun _ _ h => h) ?_ ?_ ?_; (focus kernel_rfl))
        | (refine AWL.callV (f := 32) rfl rfl rfl rfl ?_ (Nat.le_of_ble_eq_true rfl) rfl (rset_ok _ hl hb _ _ _ hx0 hx1) ?_; (focus kernel_rfl))
        | (refine AWL.call (f := 32) rfl rfl rfl ?_ rfl (Nat.le_of_ble_eq_true rfl) rfl (rset_ok _ hl hb _ _ _ hx0 hx1) ?_; (focus kernel_rfl))
        | (refine CWr.call (f := 32) rfl ?_ rfl (rset_ok _ hl hb _ _ _ hx0 hx1) (fun _ _ h => h) ?_ ?_ ?_; (focus kernel_rfl))
        | fail) <;> (try ((first | show AWL _ _ _ _ _ | show AW _ _ _ _ | show FW _ _ _ _ _ _ _ _ _ _ | show CW _ _ _ _ _ _ _ _ _ _ _ _ | (rintro _ _ ⟨rfl, rfl⟩; (try refine And.intro rfl ?_))); (try (conv => arg -1; simp (disch := omega) only [NSX, Nat.reduceBEq, Nat.reduceAdd, Nat.reduceMul, Int.reduceToNat, Nat.reduceSub, TY, slx, take16, drop16, dz, nums_length, hl, hu, q8, q16, q32, q64])))))
      | ((first | refine AWL.guard2 rfl rfl rfl rfl rfl rfl ?_ ?_ | refine CW.guard2 rfl rfl rfl rfl rfl rfl rfl rfl ?_ ?_) <;> (intro hc; (try simp only [Bool.not_true, Bool.not_false] at hc); first | (cases hc; done) | ((try simp only [hc]); (try simp only [beq_iff_eq, bne_iff_ne, decide_eq_true_eq, decide_eq_false_iff_not, beq_eq_false_iff_ne, bne_eq_false_iff_eq, ne_eq, Bool.not_eq_true, Bool.not_eq_false, Bool.not_eq_eq_eq_not, Bool.not_true, Bool.not_false, Decidable.not_not, Int.not_lt, Int.not_le] at hc); (try (exfalso; omega)); (try (guard_hyp hc : True; clear hc)))))
      | (refine AWL.guard2 rfl rfl rfl rfl rfl rfl (fun hc => ?_) ?_; (cases hc; done))
      | ((first | ((show AW _ (.region _ _ true) _ _); refine AW.calm false [] [] hmix (by (repeat' (first | exact panOk_end | exact panOk_endM | refine panOk_then ?_ | refine panOk_block ?_ | refine QEq.pan (by assumption) ?_))) ?_ rfl ?_; (focus (as_aux_lemma => kernel_rfl))) | refine AWL.guardU rfl rfl rfl rfl rfl rfl ?_ | refine CW.guardU rfl rfl rfl rfl rfl rfl rfl rfl ?_); (try (conv => arg -1; simp (disch := omega) only [NSX, Nat.reduceBEq, Nat.reduceAdd, Nat.reduceMul, Int.reduceToNat, Nat.reduceSub, TY, slx, take16, drop16, dz, nums_length, hl, hu, q8, q16, q32, q64])))
      | refine CW.tail rfl ?_
      | (refine AW.cond rfl (fun hc => ?_) (fun hc => ?_) <;> first | (cases hc; done) | ((try simp only [beq_iff_eq, bne_iff_ne, decide_eq_true_eq, decide_eq_false_iff_not, beq_eq_false_iff_ne, bne_eq_false_iff_eq, ne_eq, Bool.not_eq_true, Bool.not_eq_false, Bool.not_eq_eq_eq_not, Bool.not_true, Bool.not_false, Decidable.not_not, Int.not_lt, Int.not_le] at hc); (try (exfalso; omega)); (try (guard_hyp hc : True; clear hc))))
      | ((refine EndQ.mk rfl rfl rfl ?_ ?_ ?_; (focus (first | exact Or.inl rfl | exact Or.inr rfl))) <;> (try simp (disch := omega) only [NSX, Nat.reduceBEq, Nat.reduceAdd, Nat.reduceMul, Int.reduceToNat, Nat.reduceSub, TY, slx, take16, drop16, dz, nums_length, hl, hu, q8, q16, q32, q64]))
      | (focus ((first | exact trivial | omega | (refine And.intro (by kernel_rfl) (And.intro ⟨_, (by first | exact nums_ints _ _ | rfl), (by first | exact nums_ints _ _ | rfl)⟩ (And.intro ?_ ?_)) <;> (first | rfl | assumption | (simp only [nums_length]; omega) | omega)) | (refine And.intro ?_ (And.intro ?_ ?_); (focus kernel_rfl); (focus kernel_rfl); (focus kernel_rfl)) | ((show newKs _ _ _ = true); kernel_rfl) | ((show FitV _ _ _ _ _ _); (repeat' (first | exact trivial | exact Or.inr (Or.inl rfl) | exact Or.inl rfl | exact Or.inr (Or.inr rfl) | refine And.intro ?_ ?_)); done) | assumption | ((first | refine ld_nums i3 _ _ ?_ | refine ld_nums i22 _ _ ?_ | refine ld_nums i5 _ _ ?_ | refine at_nums i3 _ _ ?_ | refine at_nums i22 _ _ ?_ | refine at_nums i5 _ _ ?_); first | assumption | omega | (simp only [List.length_append]; omega)) | (show _ ≤ _; omega) | (simp only [List.length_take, List.length_drop, List.length_append, List.length_cons, List.length_nil]; omega) | ((repeat' (first | exact trivial | exact rfl | exact Nat.le_of_ble_eq_true rfl | refine And.intro ?_ ?_ | fail)); done) | ((try simp (disch := omega) only [NSX, Nat.reduceBEq, Nat.reduceAdd, Nat.reduceMul, Int.reduceToNat, Nat.reduceSub, TY, slx, take16, drop16, dz, nums_length, hl, hu, q8, q16, q32, q64]); (repeat' (first | exact trivial | exact rfl | exact ⟨_, _, rfl⟩ | exact ⟨_, rfl⟩ | exact Nat.le_of_ble_eq_true rfl | exact Nat.zero_lt_succ _ | omega | (simp only [nums_length, toB_len] at *; omega) | refine And.intro ?_ ?_ | fail)); done)); done))
      | fail)
    all_goals first | exact ⟨trivial, trivial⟩ | exact ⟨rfl, trivial⟩ | exact ⟨rfl, rfl⟩ | exact ⟨trivial, rfl⟩ | (exfalso; omega) | trace_state
set_option maxHeartbeats 1600000 in
theorem rext_64795 (i : Int) (v : List Int) (hl : v.length = 16) (hb : bytes v) :
    AC Try.prog 13 [.int .i64 64795, .int .i64 i, .fagg (nums .u8 v)] (fun r m => r = .tup [.int .u64 (exS 64795 i v).1, .int .i64 (exS 64795 i v).2] ∧ m = []) := by
  have hx0 : True := trivial
  have hx1 : True := trivial
  have hf3 : True := trivial
  have hf1 := find_ok 64795 21 24 27 29 (by omega) (by omega) (by omega) (by omega)
  rw [show findS 64795 21 24 27 29 = 2 from by decide] at hf1
  have hf2 := find_ok 64795 22 25 27 29 (by omega) (by omega) (by omega) (by omega)
  rw [show findS 64795 22 25 27 29 = 2 from by decide] at hf2
  have hwid : AC Try.prog 28 [.int .i64 2] (fun r m => r = .int .i64 32 ∧ m = []) := width_ok 2 (by decide)
  have hu := u64mod (signed v 32 i)
  by_cases hbad : i < 0 ∨ i ≥ 4
  · have he : exS 64795 i v = (0, 1) := by
      unfold exS; rw [show extW 64795 = 32 from by decide, show ((lanes 32 : Nat) : Int) = 4 from by decide, if_pos (by omega)]
    rw [he]
    refine AC.enter Try.func13 rfl (Nat.le_of_ble_eq_true rfl) ?_
    simp only [Try.f13]
    have hchk : True := by simp only [TY, slx, take16, drop16, dz, nums_length, hl, q8, q16, q32, q64]
    repeat' (first
      | (refine AWL.opN (sl := SL) rfl rfl rfl trivial ?_; (try (conv => arg -1; simp (disch := omega) only [NSX, Nat.reduceBEq, Nat.reduceAdd, Nat.reduceMul, Int.reduceToNat, Nat.reduceSub, TY, slx, take16, drop16, dz, nums_length, hl, q8, q16, q32, q64])))
      | (refine AW.seqQ ?_; intro Qn hQn)
      | (refine AW.blockQ ?_; intro Qn hQn)
      | refine AW.region ?_
      | ((first | refine AW.skip ?_ | refine AW.ret ?_ | refine AW.exit ?_ | refine AWL.nil ?_ | refine CW.nil ?_); (repeat (first | refine QEq.mp (by assumption) ?_ | simp only [thenQ, Go.Abs.blockQ, ↓reduceIte, Nat.reduceEqDiff])))
      | refine FW.nil ?_
      | refine FW.pass rfl rfl ?_
      | refine FW.go rfl ?_
      | refine CW.skip rfl rfl ?_
      | refine CW.step rfl rfl rfl rfl rfl ?_
      | ((first
        | (refine AWL.boxF (t := 26) rfl rfl rfl rfl rfl ?_)
        | (refine AWL.allocF (t := 26) rfl rfl rfl rfl rfl rfl ?_)
        | (refine CWr.allocF (t := 26) rfl rfl rfl ?_ ?_)
        | (refine AWL.op (sl := SL) rfl rfl ?_ ?_)
        | (refine FW.float rfl rfl rfl rfl rfl ?_)
        | (refine CWr.op rfl ?_ ?_ ?_)
        | (refine CWr.assign rfl ?_ ?_)
        | (refine CWr.alloc rfl rfl rfl rfl ?_)
        | (refine CWr.build rfl rfl rfl rfl ?_ rfl rfl rfl ?_)
        | (refine AWL.frzA rfl rfl ?_)
        | (refine AWL.callV (f := 27) rfl rfl rfl rfl ?_ (Nat.le_of_ble_eq_true rfl) rfl (hf1) ?_; (focus kernel_rfl))
        | (refine AWL.call (f := 27) rfl rfl rfl ?_ rfl (Nat.le_of_ble_eq_true rfl) rfl (hf1) ?_; (focus kernel_rfl))
        | (refine CWr.call (f := 27) rfl ?_ rfl (hf1) (fun _ _ h => h) ?_ ?_ ?_; (focus kernel_rfl))
        | (refine AWL.callV (f := 27) rfl rfl rfl rfl ?_ (Nat.le_of_ble_eq_true rfl) rfl (hf2) ?_; (focus kernel_rfl))
        | (refine AWL.call (f := 27) rfl rfl rfl ?_ rfl (Nat.le_of_ble_eq_true rfl) rfl (hf2) ?_; (focus kernel_rfl))
        | (refine CWr.call (f := 27) rfl ?_ rfl (hf2) (fun _ _ h => h) ?_ ?_ ?_; (focus kernel_rfl))
        | (refine AWL.callV (f := 27) rfl rfl rfl rfl ?_ (Nat.le_of_ble_eq_true rfl) rfl (hf3) ?_; (focus kernel_rfl))
        | (refine AWL.call (f := 27) rfl rfl rfl ?_ rfl (Nat.le_of_ble_eq_true rfl) rfl (hf3) ?_; (focus kernel_rfl))
        | (refine CWr.call (f := 27) rfl ?_ rfl (hf3) (fun _ _ h => h) ?_ ?_ ?_; (focus kernel_rfl))
        | (refine AWL.callV (f := 28) rfl rfl rfl rfl ?_ (Nat.le_of_ble_eq_true rfl) rfl (hwid) ?_; (focus kernel_rfl))
        | (refine AWL.call (f := 28) rfl rfl rfl ?_ rfl (Nat.le_of_ble_eq_true rfl) rfl (hwid) ?_; (focus kernel_rfl))
        | (refine CWr.call (f := 28) rfl ?_ rfl (hwid) (fun _ _ h => h) ?_ ?_ ?_; (focus kernel_rfl))
        | (refine AWL.callV (f := 30) rfl rfl rfl rfl ?_ (Nat.le_of_ble_eq_true rfl) rfl (rsigned_ok _ hl hb _ _) ?_; (focus kernel_rfl))
        | (refine AWL.call (f := 30) rfl rfl rfl ?_ rfl (Nat.le_of_ble_eq_true rfl) rfl (rsigned_ok _ hl hb _ _) ?_; (focus kernel_rfl))
        | (refine CWr.call (f := 30) rfl ?_ rfl (rsigned_ok _ hl hb _ _) (fun _ _ h => h) ?_ ?_ ?_; (focus kernel_rfl))
        | (refine AWL.callV (f := 31) rfl rfl rfl rfl ?_ (Nat.le_of_ble_eq_true rfl) rfl (rget_ok _ hl hb _ _) ?_; (focus kernel_rfl))
        | (refine AWL.call (f := 31) rfl rfl rfl ?_ rfl (Nat.le_of_ble_eq_true rfl) rfl (rget_ok _ hl hb _ _) ?_; (focus kernel_rfl))
        | (refine CWr.call (f := 31) rfl ?_ rfl (rget_ok _ hl hb _ _) (fun _ _ h => h) ?_ ?_ ?_; (focus kernel_rfl))
        | (refine AWL.callV (f := 32) rfl rfl rfl rfl ?_ (Nat.le_of_ble_eq_true rfl) rfl (rset_ok _ hl hb _ _ _ hx0 hx1) ?_; (focus kernel_rfl))
        | (refine AWL.call (f := 32) rfl rfl rfl ?_ rfl (Nat.le_of_ble_eq_true rfl) rfl (rset_ok _ hl hb _ _ _ hx0 hx1) ?_; (focus kernel_rfl))
        | (refine CWr.call (f := 32) rfl ?_ rfl (rset_ok _ hl hb _ _ _ hx0 hx1) (fun _ _ h => h) ?_ ?_ ?_; (focus kernel_rfl))
        | fail) <;> (try ((first | show AWL _ _ _ _ _ | show AW _ _ _ _ | show FW _ _ _ _ _ _ _ _ _ _ | show CW _ _ _ _ _ _ _ _ _ _ _ _ | (rintro _ _ ⟨rfl, rfl⟩; (try refine And.intro rfl ?_))); (try (conv => arg -1; simp (disch := omega) only [NSX, Nat.reduceBEq, Nat.reduceAdd, Nat.reduceMul, Int.reduceToNat, Nat.reduceSub, TY, slx, take16, drop16, dz, nums_length, hl, q8, q16, q32, q64])))))
      | ((first | refine AWL.guard2 rfl rfl rfl rfl rfl rfl ?_ ?_ | refine CW.guard2 rfl rfl rfl rfl rfl rfl rfl rfl ?_ ?_) <;> (intro hc; (try simp only [Bool.not_true, Bool.not_false] at hc); first | (cases hc; done) | ((try simp only [hc]); (try simp only [beq_iff_eq, bne_iff_ne, decide_eq_true_eq, decide_eq_false_iff_not, beq_eq_false_iff_ne, bne_eq_false_iff_eq, ne_eq, Bool.not_eq_true, Bool.not_eq_false, Bool.not_eq_eq_eq_not, Bool.not_true, Bool.not_false, Decidable.not_not, Int.not_lt, Int.not_le] at hc); (try (exfalso; omega)); (try (guard_hyp hc : True; clear hc)))))
      | (refine AWL.guard2 rfl rfl rfl rfl rfl rfl (fun hc => ?_) ?_; (cases hc; done))
      | ((first | ((show AW _ (.region _ _ true) _ _); refine AW.calm false [] [] hmix (by (repeat' (first | exact panOk_end | exact panOk_endM | refine panOk_then ?_ | refine panOk_block ?_ | refine QEq.pan (by assumption) ?_))) ?_ rfl ?_; (focus (as_aux_lemma => kernel_rfl))) | refine AWL.guardU rfl rfl rfl rfl rfl rfl ?_ | refine CW.guardU rfl rfl rfl rfl rfl rfl rfl rfl ?_); (try (conv => arg -1; simp (disch := omega) only [NSX, Nat.reduceBEq, Nat.reduceAdd, Nat.reduceMul, Int.reduceToNat, Nat.reduceSub, TY, slx, take16, drop16, dz, nums_length, hl, q8, q16, q32, q64])))
      | refine CW.tail rfl ?_
      | (refine AW.cond rfl (fun hc => ?_) (fun hc => ?_) <;> first | (cases hc; done) | ((try simp only [beq_iff_eq, bne_iff_ne, decide_eq_true_eq, decide_eq_false_iff_not, beq_eq_false_iff_ne, bne_eq_false_iff_eq, ne_eq, Bool.not_eq_true, Bool.not_eq_false, Bool.not_eq_eq_eq_not, Bool.not_true, Bool.not_false, Decidable.not_not, Int.not_lt, Int.not_le] at hc); (try (exfalso; omega)); (try (guard_hyp hc : True; clear hc))))
      | ((refine EndQ.mk rfl rfl rfl ?_ ?_ ?_; (focus (first | exact Or.inl rfl | exact Or.inr rfl))) <;> (try simp (disch := omega) only [NSX, Nat.reduceBEq, Nat.reduceAdd, Nat.reduceMul, Int.reduceToNat, Nat.reduceSub, TY, slx, take16, drop16, dz, nums_length, hl, q8, q16, q32, q64]))
      | (focus ((first | exact trivial | omega | (refine And.intro (by kernel_rfl) (And.intro ⟨_, (by first | exact nums_ints _ _ | rfl), (by first | exact nums_ints _ _ | rfl)⟩ (And.intro ?_ ?_)) <;> (first | rfl | assumption | (simp only [nums_length]; omega) | omega)) | (refine And.intro ?_ (And.intro ?_ ?_); (focus kernel_rfl); (focus kernel_rfl); (focus kernel_rfl)) | ((show newKs _ _ _ = true); kernel_rfl) | ((show FitV _ _ _ _ _ _); (repeat' (first | exact trivial | exact Or.inr (Or.inl rfl) | exact Or.inl rfl | exact Or.inr (Or.inr rfl) | refine And.intro ?_ ?_)); done) | assumption | ((first | refine ld_nums i3 _ _ ?_ | refine ld_nums i22 _ _ ?_ | refine ld_nums i5 _ _ ?_ | refine at_nums i3 _ _ ?_ | refine at_nums i22 _ _ ?_ | refine at_nums i5 _ _ ?_); first | assumption | omega | (simp only [List.length_append]; omega)) | (show _ ≤ _; omega) | (simp only [List.length_take, List.length_drop, List.length_append, List.length_cons, List.length_nil]; omega) | ((repeat' (first | exact trivial | exact rfl | exact Nat.le_of_ble_eq_true rfl | refine And.intro ?_ ?_ | fail)); done) | ((try simp (disch := omega) only [NSX, Nat.reduceBEq, Nat.reduceAdd, Nat.reduceMul, Int.reduceToNat, Nat.reduceSub, TY, slx, take16, drop16, dz, nums_length, hl, q8, q16, q32, q64]); (repeat' (first | exact trivial | exact rfl | exact ⟨_, _, rfl⟩ | exact ⟨_, rfl⟩ | exact Nat.le_of_ble_eq_true rfl | exact Nat.zero_lt_succ _ | omega | (simp only [nums_length, toB_len] at *; omega) | refine And.intro ?_ ?_ | fail)); done)); done))
      | fail)
    all_goals first | exact ⟨trivial, trivial⟩ | exact ⟨rfl, trivial⟩ | exact ⟨rfl, rfl⟩ | exact ⟨trivial, rfl⟩ | (exfalso; omega) | trace_state
  · have he : exS 64795 i v = (get v 32 i, 0) := by
      unfold exS; rw [show extW 64795 = 32 from by decide, show ((lanes 32 : Nat) : Int) = 4 from by decide, if_neg (by omega), if_neg (by decide)]
    rw [he]
    refine AC.enter Try.func13 rfl (Nat.le_of_ble_eq_true rfl) ?_
    simp only [Try.f13]
    have hchk : True := by simp only [TY, slx, take16, drop16, dz, nums_length, hl, hu, q8, q16, q32, q64]
    repeat' (first
      | (refine AWL.opN (sl := SL) rfl rfl rfl trivial ?_; (try (conv => arg -1; simp (disch := omega) only [NSX, Nat.reduceBEq, Nat.reduceAdd, Nat.reduceMul, Int.reduceToNat, Nat.reduceSub, TY, slx, take16, drop16, dz, nums_length, hl, hu, q8, q16, q32, q64])))
      | (refine AW.seqQ ?_; intro Qn hQn)
      | (refine AW.blockQ ?_; intro Qn hQn)
      | refine AW.region ?_
      | ((first | refine AW.skip ?_ | refine AW.ret ?_ | refine AW.exit ?_ | refine AWL.nil ?_ | refine CW.nil ?_); (repeat (first | refine QEq.mp (by assumption) ?_ | simp only [thenQ, Go.Abs.blockQ, ↓reduceIte, Nat.reduceEqDiff])))
      | refine FW.nil ?_
      | refine FW.pass rfl rfl ?_
      | refine FW.go rfl ?_
      | refine CW.skip rfl rfl ?_
      | refine CW.step rfl rfl rfl rfl rfl ?_
      | ((first
        | (refine AWL.boxF (t := 26) rfl rfl rfl rfl rfl ?_)
        | (refine AWL.allocF (t := 26) rfl rfl rfl rfl rfl rfl ?_)
        | (refine CWr.allocF (t := 26) rfl rfl rfl ?_ ?_)
        | (refine AWL.op (sl := SL) rfl rfl ?_ ?_)
        | (refine FW.float rfl rfl rfl rfl rfl ?_)
        | (refine CWr.op rfl ?_ ?_ ?_)
        | (refine CWr.assign rfl ?_ ?_)
        | (refine CWr.alloc rfl rfl rfl rfl ?_)
        | (refine CWr.build rfl rfl rfl rfl ?_ rfl rfl rfl ?_)
        | (refine AWL.frzA rfl rfl ?_)
        | (refine AWL.callV (f := 27) rfl rfl rfl rfl ?_ (Nat.le_of_ble_eq_true rfl) rfl (hf1) ?_; (focus kernel_rfl))
        | (refine AWL.call (f := 27) rfl rfl rfl ?_ rfl (Nat.le_of_ble_eq_true rfl) rfl (hf1) ?_; (focus kernel_rfl))
        | (refine CWr.call (f := 27) rfl ?_ rfl (hf1) (fun _ _ h => h) ?_ ?_ ?_; (focus kernel_rfl))
        | (refine AWL.callV (f := 27) rfl rfl rfl rfl ?_ (Nat.le_of_ble_eq_true rfl) rfl (hf2) ?_; (focus kernel_rfl))
        | (refine AWL.call (f := 27) rfl rfl rfl ?_ rfl (Nat.le_of_ble_eq_true rfl) rfl (hf2) ?_; (focus kernel_rfl))
        | (refine CWr.call (f := 27) rfl ?_ rfl (hf2) (fun _ _ h => h) ?_ ?_ ?_; (focus kernel_rfl))
        | (refine AWL.callV (f := 27) rfl rfl rfl rfl ?_ (Nat.le_of_ble_eq_true rfl) rfl (hf3) ?_; (focus kernel_rfl))
        | (refine AWL.call (f := 27) rfl rfl rfl ?_ rfl (Nat.le_of_ble_eq_true rfl) rfl (hf3) ?_; (focus kernel_rfl))
        | (refine CWr.call (f := 27) rfl ?_ rfl (hf3) (fun _ _ h => h) ?_ ?_ ?_; (focus kernel_rfl))
        | (refine AWL.callV (f := 28) rfl rfl rfl rfl ?_ (Nat.le_of_ble_eq_true rfl) rfl (hwid) ?_; (focus kernel_rfl))
        | (refine AWL.call (f := 28) rfl rfl rfl ?_ rfl (Nat.le_of_ble_eq_true rfl) rfl (hwid) ?_; (focus kernel_rfl))
        | (refine CWr.call (f := 28) rfl ?_ rfl (hwid) (fun _ _ h => h) ?_ ?_ ?_; (focus kernel_rfl))
        | (refine AWL.callV (f := 30) rfl rfl rfl rfl ?_ (Nat.le_of_ble_eq_true rfl) rfl (rsigned_ok _ hl hb _ _) ?_; (focus kernel_rfl))
        | (refine AWL.call (f := 30) rfl rfl rfl ?_ rfl (Nat.le_of_ble_eq_true rfl) rfl (rsigned_ok _ hl hb _ _) ?_; (focus kernel_rfl))
        | (refine CWr.call (f := 30) rfl ?_ rfl (rsigned_ok _ hl hb _ _) (fun _ _ h => h) ?_ ?_ ?_; (focus kernel_rfl))
        | (refine AWL.callV (f := 31) rfl rfl rfl rfl ?_ (Nat.le_of_ble_eq_true rfl) rfl (rget_ok _ hl hb _ _) ?_; (focus kernel_rfl))
        | (refine AWL.call (f := 31) rfl rfl rfl ?_ rfl (Nat.le_of_ble_eq_true rfl) rfl (rget_ok _ hl hb _ _) ?_; (focus kernel_rfl))
        | (refine CWr.call (f := 31) rfl ?_ rfl (rget_ok _ hl hb _ _) (fun _ _ h => h) ?_ ?_ ?_; (focus kernel_rfl))
        | (refine AWL.callV (f := 32) rfl rfl rfl rfl ?_ (Nat.le_of_ble_eq_true rfl) rfl (rset_ok _ hl hb _ _ _ hx0 hx1) ?_; (focus kernel_rfl))
        | (refine AWL.call (f := 32) rfl rfl rfl ?_ rfl (Nat.le_of_ble_eq_true rfl) rfl (rset_ok _ hl hb _ _ _ hx0 hx1) ?_; (focus kernel_rfl))
        | (refine CWr.call (f := 32) rfl ?_ rfl (rset_ok _ hl hb _ _ _ hx0 hx1) (fun _ _ h => h) ?_ ?_ ?_; (focus kernel_rfl))
        | fail) <;> (try ((first | show AWL _ _ _ _ _ | show AW _ _ _ _ | show FW _ _ _ _ _ _ _ _ _ _ | show CW _ _ _ _ _ _ _ _ _ _ _ _ | (rintro _ _ ⟨rfl, rfl⟩; (try refine And.intro rfl ?_))); (try (conv => arg -1; simp (disch := omega) only [NSX, Nat.reduceBEq, Nat.reduceAdd, Nat.reduceMul, Int.reduceToNat, Nat.reduceSub, TY, slx, take16, drop16, dz, nums_length, hl, hu, q8, q16, q32, q64])))))
      | ((first | refine AWL.guard2 rfl rfl rfl rfl rfl rfl ?_ ?_ | refine CW.guard2 rfl rfl rfl rfl rfl rfl rfl rfl ?_ ?_) <;> (intro hc; (try simp only [Bool.not_true, Bool.not_false] at hc); first | (cases hc; done) | ((try simp only [hc]); (try simp only [beq_iff_eq, bne_iff_ne, decide_eq_true_eq, decide_eq_false_iff_not, beq_eq_false_iff_ne, bne_eq_false_iff_eq, ne_eq, Bool.not_eq_true, Bool.not_eq_false, Bool.not_eq_eq_eq_not, Bool.not_true, Bool.not_false, Decidable.not_not, Int.not_lt, Int.not_le] at hc); (try (exfalso; omega)); (try (guard_hyp hc : True; clear hc)))))
      | (refine AWL.guard2 rfl rfl rfl rfl rfl rfl (fun hc => ?_) ?_; (cases hc; done))
      | ((first | ((show AW _ (.region _ _ true) _ _); refine AW.calm false [] [] hmix (by (repeat' (first | exact panOk_end | exact panOk_endM | refine panOk_then ?_ | refine panOk_block ?_ | refine QEq.pan (by assumption) ?_))) ?_ rfl ?_; (focus (as_aux_lemma => kernel_rfl))) | refine AWL.guardU rfl rfl rfl rfl rfl rfl ?_ | refine CW.guardU rfl rfl rfl rfl rfl rfl rfl rfl ?_); (try (conv => arg -1; simp (disch := omega) only [NSX, Nat.reduceBEq, Nat.reduceAdd, Nat.reduceMul, Int.reduceToNat, Nat.reduceSub, TY, slx, take16, drop16, dz, nums_length, hl, hu, q8, q16, q32, q64])))
      | refine CW.tail rfl ?_
      | (refine AW.cond rfl (fun hc => ?_) (fun hc => ?_) <;> first | (cases hc; done) | ((try simp only [beq_iff_eq, bne_iff_ne, decide_eq_true_eq, decide_eq_false_iff_not, beq_eq_false_iff_ne, bne_eq_false_iff_eq, ne_eq, Bool.not_eq_true, Bool.not_eq_false, Bool.not_eq_eq_eq_not, Bool.not_true, Bool.not_false, Decidable.not_not, Int.not_lt, Int.not_le] at hc); (try (exfalso; omega)); (try (guard_hyp hc : True; clear hc))))
      | ((refine EndQ.mk rfl rfl rfl ?_ ?_ ?_; (focus (first | exact Or.inl rfl | exact Or.inr rfl))) <;> (try simp (disch := omega) only [NSX, Nat.reduceBEq, Nat.reduceAdd, Nat.reduceMul, Int.reduceToNat, Nat.reduceSub, TY, slx, take16, drop16, dz, nums_length, hl, hu, q8, q16, q32, q64]))
      | (focus ((first | exact trivial | omega | (refine And.intro (by kernel_rfl) (And.intro ⟨_, (by first | exact nums_ints _ _ | rfl), (by first | exact nums_ints _ _ | rfl)⟩ (And.intro ?_ ?_)) <;> (first | rfl | assumption | (simp only [nums_length]; omega) | omega)) | (refine And.intro ?_ (And.intro ?_ ?_); (focus kernel_rfl); (focus kernel_rfl); (focus kernel_rfl)) | ((show newKs _ _ _ = true); kernel_rfl) | ((show FitV _ _ _ _ _ _); (repeat' (first | exact trivial | exact Or.inr (Or.inl rfl) | exact Or.inl rfl | exact Or.inr (Or.inr rfl) | refine And.intro ?_ ?_)); done) | assumption | ((first | refine ld_nums i3 _ _ ?_ | refine ld_nums i22 _ _ ?_ | refine ld_nums i5 _ _ ?_ | refine at_nums i3 _ _ ?_ | refine at_nums i22 _ _ ?_ | refine at_nums i5 _ _ ?_); first | assumption | omega | (simp only [List.length_append]; omega)) | (show _ ≤ _; omega) | (simp only [List.length_take, List.length_drop, List.length_append, List.length_cons, List.length_nil]; omega) | ((repeat' (first | exact trivial | exact rfl | exact Nat.le_of_ble_eq_true rfl | refine And.intro ?_ ?_ | fail)); done) | ((try simp (disch := omega) only [NSX, Nat.reduceBEq, Nat.reduceAdd, Nat.reduceMul, Int.reduceToNat, Nat.reduceSub, TY, slx, take16, drop16, dz, nums_length, hl, hu, q8, q16, q32, q64]); (repeat' (first | exact trivial | exact rfl | exact ⟨_, _, rfl⟩ | exact ⟨_, rfl⟩ | exact Nat.le_of_ble_eq_true rfl | exact Nat.zero_lt_succ _ | omega | (simp only [nums_length, toB_len] at *; omega) | refine And.intro ?_ ?_ | fail)); done)); done))
      | fail)
    all_goals first | exact ⟨trivial, trivial⟩ | exact ⟨rfl, trivial⟩ | exact ⟨rfl, rfl⟩ | exact ⟨trivial, rfl⟩ | (exfalso; omega) | trace_state
set_option maxHeartbeats 1600000 in
theorem rext_64797 (i : Int) (v : List Int) (hl : v.length = 16) (hb : bytes v) :
    AC Try.prog 13 [.int .i64 64797, .int .i64 i, .fagg (nums .u8 v)] (fun r m => r = .tup [.int .u64 (exS 64797 i v).1, .int .i64 (exS 64797 i v).2] ∧ m = []) := by
  have hx0 : True := trivial
  have hx1 : True := trivial
  have hf3 : True := trivial
  have hf1 := find_ok 64797 21 24 27 29 (by omega) (by omega) (by omega) (by omega)
  rw [show findS 64797 21 24 27 29 = 3 from by decide] at hf1
  have hf2 := find_ok 64797 22 25 27 29 (by omega) (by omega) (by omega) (by omega)
  rw [show findS 64797 22 25 27 29 = 3 from by decide] at hf2
  have hwid : AC Try.prog 28 [.int .i64 3] (fun r m => r = .int .i64 64 ∧ m = []) := width_ok 3 (by decide)
  have hu := u64mod (signed v 64 i)
  by_cases hbad : i < 0 ∨ i ≥ 2
  · have he : exS 64797 i v = (0, 1) := by
      unfold exS; rw [show extW 64797 = 64 from by decide, show ((lanes 64 : Nat) : Int) = 2 from by decide, if_pos (by omega)]
    rw [he]
    refine AC.enter Try.func13 rfl (Nat.le_of_ble_eq_true rfl) ?_
    simp only [Try.f13]
    have hchk : True := by simp only [TY, slx, take16, drop16, dz, nums_length, hl, q8, q16, q32, q64]
    repeat' (first
      | (refine AWL.opN (sl := SL) rfl rfl rfl trivial ?_; (try (conv => arg -1; simp (disch := omega) only [NSX, Nat.reduceBEq, Nat.reduceAdd, Nat.reduceMul, Int.reduceToNat, Nat.reduceSub, TY, slx, take16, drop16, dz, nums_length, hl, q8, q16, q32, q64])))
      | (refine AW.seqQ ?_; intro Qn hQn)
      | (refine AW.blockQ ?_; intro Qn hQn)
      | refine AW.region ?_
      | ((first | refine AW.skip ?_ | refine AW.ret ?_ | refine AW.exit ?_ | refine AWL.nil ?_ | refine CW.nil ?_); (repeat (first | refine QEq.mp (by assumption) ?_ | simp only [thenQ, Go.Abs.blockQ, ↓reduceIte, Nat.reduceEqDiff])))
      | refine FW.nil ?_
      | refine FW.pass rfl rfl ?_
      | refine FW.go rfl ?_
      | refine CW.skip rfl rfl ?_
      | refine CW.step rfl rfl rfl rfl rfl ?_
      | ((first
        | (refine AWL.boxF (t := 26) rfl rfl rfl rfl rfl ?_)
        | (refine AWL.allocF (t := 26) rfl rfl rfl rfl rfl rfl ?_)
        | (refine CWr.allocF (t := 26) rfl rfl rfl ?_ ?_)
        | (refine AWL.op (sl := SL) rfl rfl ?_ ?_)
        | (refine FW.float rfl rfl rfl rfl rfl ?_)
        | (refine CWr.op rfl ?_ ?_ ?_)
        | (refine CWr.assign rfl ?_ ?_)
        | (refine CWr.alloc rfl rfl rfl rfl ?_)
        | (refine CWr.build rfl rfl rfl rfl ?_ rfl rfl rfl ?_)
        | (refine AWL.frzA rfl rfl ?_)
        | (refine AWL.callV (f := 27) rfl rfl rfl rfl ?_ (Nat.le_of_ble_eq_true rfl) rfl (hf1) ?_; (focus kernel_rfl))
        | (refine AWL.call (f := 27) rfl rfl rfl ?_ rfl (Nat.le_of_ble_eq_true rfl) rfl (hf1) ?_; (focus kernel_rfl))
        | (refine CWr.call (f := 27) rfl ?_ rfl (hf1) (fun _ _ h => h) ?_ ?_ ?_; (focus kernel_rfl))
        | (refine AWL.callV (f := 27) rfl rfl rfl rfl ?_ (Nat.le_of_ble_eq_true rfl) rfl (hf2) ?_; (focus kernel_rfl))
        | (refine AWL.call (f := 27) rfl rfl rfl ?_ rfl (Nat.le_of_ble_eq_true rfl) rfl (hf2) ?_; (focus kernel_rfl))
        | (refine CWr.call (f := 27) rfl ?_ rfl (hf2) (fun _ _ h => h) ?_ ?_ ?_; (focus kernel_rfl))
        | (refine AWL.callV (f := 27) rfl rfl rfl rfl ?_ (Nat.le_of_ble_eq_true rfl) rfl (hf3) ?_; (focus kernel_rfl))
        | (refine AWL.call (f := 27) rfl rfl rfl ?_ rfl (Nat.le_of_ble_eq_true rfl) rfl (hf3) ?_; (focus kernel_rfl))
        | (refine CWr.call (f := 27) rfl ?_ rfl (hf3) (fun _ _ h => h) ?_ ?_ ?_; (focus kernel_rfl))
        | (refine AWL.callV (f := 28) rfl rfl rfl rfl ?_ (Nat.le_of_ble_eq_true rfl) rfl (hwid) ?_; (focus kernel_rfl))
        | (refine AWL.call (f := 28) rfl rfl rfl ?_ rfl (Nat.le_of_ble_eq_true rfl) rfl (hwid) ?_; (focus kernel_rfl))
        | (refine CWr.call (f := 28) rfl ?_ rfl (hwid) (fun _ _ h => h) ?_ ?_ ?_; (focus kernel_rfl))
        | (refine AWL.callV (f := 30) rfl rfl rfl rfl ?_ (Nat.le_of_ble_eq_true rfl) rfl (rsigned_ok _ hl hb _ _) ?_; (focus kernel_rfl))
        | (refine AWL.call (f := 30) rfl rfl rfl ?_ rfl (Nat.le_of_ble_eq_true rfl) rfl (rsigned_ok _ hl hb _ _) ?_; (focus kernel_rfl))
        | (refine CWr.call (f := 30) rfl ?_ rfl (rsigned_ok _ hl hb _ _) (fun _ _ h => h) ?_ ?_ ?_; (focus kernel_rfl))
        | (refine AWL.callV (f := 31) rfl rfl rfl rfl ?_ (Nat.le_of_ble_eq_true rfl) rfl (rget_ok _ hl hb _ _) ?_; (focus kernel_rfl))
        | (refine AWL.call (f := 31) rfl rfl rfl ?_ rfl (Nat.le_of_ble_eq_true rfl) rfl (rget_ok _ hl hb _ _) ?_; (focus kernel_rfl))
        | (refine CWr.call (f := 31) rfl ?_ rfl (rget_ok _ hl hb _ _) (fun _ _ h => h) ?_ ?_ ?_; (focus kernel_rfl))
        | (refine AWL.callV (f := 32) rfl rfl rfl rfl ?_ (Nat.le_of_ble_eq_true rfl) rfl (rset_ok _ hl hb _ _ _ hx0 hx1) ?_; (focus kernel_rfl))
        | (refine AWL.call (f := 32) rfl rfl rfl ?_ rfl (Nat.le_of_ble_eq_true rfl) rfl (rset_ok _ hl hb _ _ _ hx0 hx1) ?_; (focus kernel_rfl))
        | (refine CWr.call (f := 32) rfl ?_ rfl (rset_ok _ hl hb _ _ _ hx0 hx1) (fun _ _ h => h) ?_ ?_ ?_; (focus kernel_rfl))
        | fail) <;> (try ((first | show AWL _ _ _ _ _ | show AW _ _ _ _ | show FW _ _ _ _ _ _ _ _ _ _ | show CW _ _ _ _ _ _ _ _ _ _ _ _ | (rintro _ _ ⟨rfl, rfl⟩; (try refine And.intro rfl ?_))); (try (conv => arg -1; simp (disch := omega) only [NSX, Nat.reduceBEq, Nat.reduceAdd, Nat.reduceMul, Int.reduceToNat, Nat.reduceSub, TY, slx, take16, drop16, dz, nums_length, hl, q8, q16, q32, q64])))))
      | ((first | refine AWL.guard2 rfl rfl rfl rfl rfl rfl ?_ ?_ | refine CW.guard2 rfl rfl rfl rfl rfl rfl rfl rfl ?_ ?_) <;> (intro hc; (try simp only [Bool.not_true, Bool.not_false] at hc); first | (cases hc; done) | ((try simp only [hc]); (try simp only [beq_iff_eq, bne_iff_ne, decide_eq_true_eq, decide_eq_false_iff_not, beq_eq_false_iff_ne, bne_eq_false_iff_eq, ne_eq, Bool.not_eq_true, Bool.not_eq_false, Bool.not_eq_eq_eq_not, Bool.not_true, Bool.not_false, Decidable.not_not, Int.not_lt, Int.not_le] at hc); (try (exfalso; omega)); (try (guard_hyp hc : True; clear hc)))))
      | (refine AWL.guard2 rfl rfl rfl rfl rfl rfl (fun hc => ?_) ?_; (cases hc; done))
      | ((first | ((show AW _ (.region _ _ true) _ _); refine AW.calm false [] [] hmix (by (repeat' (first | exact panOk_end | exact panOk_endM | refine panOk_then ?_ | refine panOk_block ?_ | refine QEq.pan (by assumption) ?_))) ?_ rfl ?_; (focus (as_aux_lemma => kernel_rfl))) | refine AWL.guardU rfl rfl rfl rfl rfl rfl ?_ | refine CW.guardU rfl rfl rfl rfl rfl rfl rfl rfl ?_); (try (conv => arg -1; simp (disch := omega) only [NSX, Nat.reduceBEq, Nat.reduceAdd, Nat.reduceMul, Int.reduceToNat, Nat.reduceSub, TY, slx, take16, drop16, dz, nums_length, hl, q8, q16, q32, q64])))
      | refine CW.tail rfl ?_
      | (refine AW.cond rfl (fun hc => ?_) (fun hc => ?_) <;> first | (cases hc; done) | ((try simp only [beq_iff_eq, bne_iff_ne, decide_eq_true_eq, decide_eq_false_iff_not, beq_eq_false_iff_ne, bne_eq_false_iff_eq, ne_eq, Bool.not_eq_true, Bool.not_eq_false, Bool.not_eq_eq_eq_not, Bool.not_true, Bool.not_false, Decidable.not_not, Int.not_lt, Int.not_le] at hc); (try (exfalso; omega)); (try (guard_hyp hc : True; clear hc))))
      | ((refine EndQ.mk rfl rfl rfl ?_ ?_ ?_; (focus (first | exact Or.inl rfl | exact Or.inr rfl))) <;> (try simp (disch := omega) only [NSX, Nat.reduceBEq, Nat.reduceAdd, Nat.reduceMul, Int.reduceToNat, Nat.reduceSub, TY, slx, take16, drop16, dz, nums_length, hl, q8, q16, q32, q64]))
      | (focus ((first | exact trivial | omega | (refine And.intro (by kernel_rfl) (And.intro ⟨_, (by first | exact nums_ints _ _ | rfl), (by first | exact nums_ints _ _ | rfl)⟩ (And.intro ?_ ?_)) <;> (first | rfl | assumption | (simp only [nums_length]; omega) | omega)) | (refine And.intro ?_ (And.intro ?_ ?_); (focus kernel_rfl); (focus kernel_rfl); (focus kernel_rfl)) | ((show newKs _ _ _ = true); kernel_rfl) | ((show FitV _ _ _ _ _ _); (repeat' (first | exact trivial | exact Or.inr (Or.inl rfl) | exact Or.inl rfl | exact Or.inr (Or.inr rfl) | refine And.intro ?_ ?_)); done) | assumption | ((first | refine ld_nums i3 _ _ ?_ | refine ld_nums i22 _ _ ?_ | refine ld_nums i5 _ _ ?_ | refine at_nums i3 _ _ ?_ | refine at_nums i22 _ _ ?_ | refine at_nums i5 _ _ ?_); first | assumption | omega | (simp only [List.length_append]; omega)) | (show _ ≤ _; omega) | (simp only [List.length_take, List.length_drop, List.length_append, List.length_cons, List.length_nil]; omega) | ((repeat' (first | exact trivial | exact rfl | exact Nat.le_of_ble_eq_true rfl | refine And.intro ?_ ?_ | fail)); done) | ((try simp (disch := omega) only [NSX, Nat.reduceBEq, Nat.reduceAdd, Nat.reduceMul, Int.reduceToNat, Nat.reduceSub, TY, slx, take16, drop16, dz, nums_length, hl, q8, q16, q32, q64]); (repeat' (first | exact trivial | exact rfl | exact ⟨_, _, rfl⟩ | exact ⟨_, rfl⟩ | exact Nat.le_of_ble_eq_true rfl | exact Nat.zero_lt_succ _ | omega | (simp only [nums_length, toB_len] at *; omega) | refine And.intro ?_ ?_ | fail)); done)); done))
      | fail)
    all_goals first | exact ⟨trivial, trivial⟩ | exact ⟨rfl, trivial⟩ | exact ⟨rfl, rfl⟩ | exact ⟨trivial, rfl⟩ | (exfalso; omega) | trace_state
  · have he : exS 64797 i v = (get v 64 i, 0) := by
      unfold exS; rw [show extW 64797 = 64 from by decide, show ((lanes 64 : Nat) : Int) = 2 from by decide, if_neg (by omega), if_neg (by decide)]
    rw [he]
    refine AC.enter Try.func13 rfl (Nat.le_of_ble_eq_true rfl) ?_
    simp only [Try.f13]
    have hchk : True := by simp only [TY, slx, take16, drop16, dz, nums_length, hl, hu, q8, q16, q32, q64]
    repeat' (first
      | (refine AWL.opN (sl := SL) rfl rfl rfl trivial ?_; (try (conv => arg -1; simp (disch := omega) only [NSX, Nat.reduceBEq, Nat.reduceAdd, Nat.reduceMul, Int.reduceToNat, Nat.reduceSub, TY, slx, take16, drop16, dz, nums_length, hl, hu, q8, q16, q32, q64])))
      | (refine AW.seqQ ?_; intro Qn hQn)
      | (refine AW.blockQ ?_; intro Qn hQn)
      | refine AW.region ?_
      | ((first | refine AW.skip ?_ | refine AW.ret ?_ | refine AW.exit ?_ | refine AWL.nil ?_ | refine CW.nil ?_); (repeat (first | refine QEq.mp (by assumption) ?_ | simp only [thenQ, Go.Abs.blockQ, ↓reduceIte, Nat.reduceEqDiff])))
      | refine FW.nil ?_
      | refine FW.pass rfl rfl ?_
      | refine FW.go rfl ?_
      | refine CW.skip rfl rfl ?_
      | refine CW.step rfl rfl rfl rfl rfl ?_
      | ((first
        | (refine AWL.boxF (t := 26) rfl rfl rfl rfl rfl ?_)
        | (refine AWL.allocF (t := 26) rfl rfl rfl rfl rfl rfl ?_)
        | (refine CWr.allocF (t := 26) rfl rfl rfl ?_ ?_)
        | (refine AWL.op (sl := SL) rfl rfl ?_ ?_)
        | (refine FW.float rfl rfl rfl rfl rfl ?_)
        | (refine CWr.op rfl ?_ ?_ ?_)
        | (refine CWr.assign rfl ?_ ?_)
        | (refine CWr.alloc rfl rfl rfl rfl ?_)
        | (refine CWr.build rfl rfl rfl rfl ?_ rfl rfl rfl ?_)
        | (refine AWL.frzA rfl rfl ?_)
        | (refine AWL.callV (f := 27) rfl rfl rfl rfl ?_ (Nat.le_of_ble_eq_true rfl) rfl (hf1) ?_; (focus kernel_rfl))
        | (refine AWL.call (f := 27) rfl rfl rfl ?_ rfl (Nat.le_of_ble_eq_true rfl) rfl (hf1) ?_; (focus kernel_rfl))
        | (refine CWr.call (f := 27) rfl ?_ rfl (hf1) (fun _ _ h => h) ?_ ?_ ?_; (focus kernel_rfl))
        | (refine AWL.callV (f := 27) rfl rfl rfl rfl ?_ (Nat.le_of_ble_eq_true rfl) rfl (hf2) ?_; (focus kernel_rfl))
        | (refine AWL.call (f := 27) rfl rfl rfl ?_ rfl (Nat.le_of_ble_eq_true rfl) rfl (hf2) ?_; (focus kernel_rfl))
        | (refine CWr.call (f := 27) rfl ?_ rfl (hf2) (fun _ _ h => h) ?_ ?_ ?_; (focus kernel_rfl))
        | (refine AWL.callV (f := 27) rfl rfl rfl rfl ?_ (Nat.le_of_ble_eq_true rfl) rfl (hf3) ?_; (focus kernel_rfl))
        | (refine AWL.call (f := 27) rfl rfl rfl ?_ rfl (Nat.le_of_ble_eq_true rfl) rfl (hf3) ?_; (focus kernel_rfl))
        | (refine CWr.call (f := 27) rfl ?_ rfl (hf3) (fun _ _ h => h) ?_ ?_ ?_; (focus kernel_rfl))
        | (refine AWL.callV (f := 28) rfl rfl rfl rfl ?_ (Nat.le_of_ble_eq_true rfl) rfl (hwid) ?_; (focus kernel_rfl))
        | (refine AWL.call (f := 28) rfl rfl rfl ?_ rfl (Nat.le_of_ble_eq_true rfl) rfl (hwid) ?_; (focus kernel_rfl))
        | (refine CWr.call (f := 28) rfl ?_ rfl (hwid) (fun _ _ h => h) ?_ ?_ ?_; (focus kernel_rfl))
        | (refine AWL.callV (f := 30) rfl rfl rfl rfl ?_ (Nat.le_of_ble_eq_true rfl) rfl (rsigned_ok _ hl hb _ _) ?_; (focus kernel_rfl))
        | (refine AWL.call (f := 30) rfl rfl rfl ?_ rfl (Nat.le_of_ble_eq_true rfl) rfl (rsigned_ok _ hl hb _ _) ?_; (focus kernel_rfl))
        | (refine CWr.call (f := 30) rfl ?_ rfl (rsigned_ok _ hl hb _ _) (fun _ _ h => h) ?_ ?_ ?_; (focus kernel_rfl))
        | (refine AWL.callV (f := 31) rfl rfl rfl rfl ?_ (Nat.le_of_ble_eq_true rfl) rfl (rget_ok _ hl hb _ _) ?_; (focus kernel_rfl))
        | (refine AWL.call (f := 31) rfl rfl rfl ?_ rfl (Nat.le_of_ble_eq_true rfl) rfl (rget_ok _ hl hb _ _) ?_; (focus kernel_rfl))
        | (refine CWr.call (f := 31) rfl ?_ rfl (rget_ok _ hl hb _ _) (fun _ _ h => h) ?_ ?_ ?_; (focus kernel_rfl))
        | (refine AWL.callV (f := 32) rfl rfl rfl rfl ?_ (Nat.le_of_ble_eq_true rfl) rfl (rset_ok _ hl hb _ _ _ hx0 hx1) ?_; (focus kernel_rfl))
        | (refine AWL.call (f := 32) rfl rfl rfl ?_ rfl (Nat.le_of_ble_eq_true rfl) rfl (rset_ok _ hl hb _ _ _ hx0 hx1) ?_; (focus kernel_rfl))
        | (refine CWr.call (f := 32) rfl ?_ rfl (rset_ok _ hl hb _ _ _ hx0 hx1) (fun _ _ h => h) ?_ ?_ ?_; (focus kernel_rfl))
        | fail) <;> (try ((first | show AWL _ _ _ _ _ | show AW _ _ _ _ | show FW _ _ _ _ _ _ _ _ _ _ | show CW _ _ _ _ _ _ _ _ _ _ _ _ | (rintro _ _ ⟨rfl, rfl⟩; (try refine And.intro rfl ?_))); (try (conv => arg -1; simp (disch := omega) only [NSX, Nat.reduceBEq, Nat.reduceAdd, Nat.reduceMul, Int.reduceToNat, Nat.reduceSub, TY, slx, take16, drop16, dz, nums_length, hl, hu, q8, q16, q32, q64])))))
      | ((first | refine AWL.guard2 rfl rfl rfl rfl rfl rfl ?_ ?_ | refine CW.guard2 rfl rfl rfl rfl rfl rfl rfl rfl ?_ ?_) <;> (intro hc; (try simp only [Bool.not_true, Bool.not_false] at hc); first | (cases hc; done) | ((try simp only [hc]); (try simp only [beq_iff_eq, bne_iff_ne, decide_eq_true_eq, decide_eq_false_iff_not, beq_eq_false_iff_ne, bne_eq_false_iff_eq, ne_eq, Bool.not_eq_true, Bool.not_eq_false, Bool.not_eq_eq_eq_not, Bool.not_true, Bool.not_false, Decidable.not_not, Int.not_lt, Int.not_le] at hc); (try (exfalso; omega)); (try (guard_hyp hc : True; clear hc)))))
      | (refine AWL.guard2 rfl rfl rfl rfl rfl rfl (fun hc => ?_) ?_; (cases hc; done))
      | ((first | ((show AW _ (.region _ _ true) _ _); refine AW.calm false [] [] hmix (by (repeat' (first | exact panOk_end | exact panOk_endM | refine panOk_then ?_ | refine panOk_block ?_ | refine QEq.pan (by assumption) ?_))) ?_ rfl ?_; (focus (as_aux_lemma => kernel_rfl))) | refine AWL.guardU rfl rfl rfl rfl rfl rfl ?_ | refine CW.guardU rfl rfl rfl rfl rfl rfl rfl rfl ?_); (try (conv => arg -1; simp (disch := omega) only [NSX, Nat.reduceBEq, Nat.reduceAdd, Nat.reduceMul, Int.reduceToNat, Nat.reduceSub, TY, slx, take16, drop16, dz, nums_length, hl, hu, q8, q16, q32, q64])))
      | refine CW.tail rfl ?_
      | (refine AW.cond rfl (fun hc => ?_) (fun hc => ?_) <;> first | (cases hc; done) | ((try simp only [beq_iff_eq, bne_iff_ne, decide_eq_true_eq, decide_eq_false_iff_not, beq_eq_false_iff_ne, bne_eq_false_iff_eq, ne_eq, Bool.not_eq_true, Bool.not_eq_false, Bool.not_eq_eq_eq_not, Bool.not_true, Bool.not_false, Decidable.not_not, Int.not_lt, Int.not_le] at hc); (try (exfalso; omega)); (try (guard_hyp hc : True; clear hc))))
      | ((refine EndQ.mk rfl rfl rfl ?_ ?_ ?_; (focus (first | exact Or.inl rfl | exact Or.inr rfl))) <;> (try simp (disch := omega) only [NSX, Nat.reduceBEq, Nat.reduceAdd, Nat.reduceMul, Int.reduceToNat, Nat.reduceSub, TY, slx, take16, drop16, dz, nums_length, hl, hu, q8, q16, q32, q64]))
      | (focus ((first | exact trivial | omega | (refine And.intro (by kernel_rfl) (And.intro ⟨_, (by first | exact nums_ints _ _ | rfl), (by first | exact nums_ints _ _ | rfl)⟩ (And.intro ?_ ?_)) <;> (first | rfl | assumption | (simp only [nums_length]; omega) | omega)) | (refine And.intro ?_ (And.intro ?_ ?_); (focus kernel_rfl); (focus kernel_rfl); (focus kernel_rfl)) | ((show newKs _ _ _ = true); kernel_rfl) | ((show FitV _ _ _ _ _ _); (repeat' (first | exact trivial | exact Or.inr (Or.inl rfl) | exact Or.inl rfl | exact Or.inr (Or.inr rfl) | refine And.intro ?_ ?_)); done) | assumption | ((first | refine ld_nums i3 _ _ ?_ | refine ld_nums i22 _ _ ?_ | refine ld_nums i5 _ _ ?_ | refine at_nums i3 _ _ ?_ | refine at_nums i22 _ _ ?_ | refine at_nums i5 _ _ ?_); first | assumption | omega | (simp only [List.length_append]; omega)) | (show _ ≤ _; omega) | (simp only [List.length_take, List.length_drop, List.length_append, List.length_cons, List.length_nil]; omega) | ((repeat' (first | exact trivial | exact rfl | exact Nat.le_of_ble_eq_true rfl | refine And.intro ?_ ?_ | fail)); done) | ((try simp (disch := omega) only [NSX, Nat.reduceBEq, Nat.reduceAdd, Nat.reduceMul, Int.reduceToNat, Nat.reduceSub, TY, slx, take16, drop16, dz, nums_length, hl, hu, q8, q16, q32, q64]); (repeat' (first | exact trivial | exact rfl | exact ⟨_, _, rfl⟩ | exact ⟨_, rfl⟩ | exact Nat.le_of_ble_eq_true rfl | exact Nat.zero_lt_succ _ | omega | (simp only [nums_length, toB_len] at *; omega) | refine And.intro ?_ ?_ | fail)); done)); done))
      | fail)
    all_goals first | exact ⟨trivial, trivial⟩ | exact ⟨rfl, trivial⟩ | exact ⟨rfl, rfl⟩ | exact ⟨trivial, rfl⟩ | (exfalso; omega) | trace_state
set_option maxHeartbeats 1600000 in
theorem rext_ok (op i : Int) (v : List Int) (hl : v.length = 16) (hb : bytes v) :
    AC Try.prog 13 [.int .i64 op, .int .i64 i, .fagg (nums .u8 v)] (fun r m => r = .tup [.int .u64 (exS op i v).1, .int .i64 (exS op i v).2] ∧ m = []) := by
  by_cases h64789 : op = 64789
  · subst h64789; exact rext_64789 i v hl hb
  by_cases h64790 : op = 64790
  · subst h64790; exact rext_64790 i v hl hb
  by_cases h64792 : op = 64792
  · subst h64792; exact rext_64792 i v hl hb
  by_cases h64793 : op = 64793
  · subst h64793; exact rext_64793 i v hl hb
  by_cases h64795 : op = 64795
  · subst h64795; exact rext_64795 i v hl hb
  by_cases h64797 : op = 64797
  · subst h64797; exact rext_64797 i v hl hb
  have hx0 : True := trivial
  have hx1 : True := trivial
  have hf3 : True := trivial
  have hwid : True := trivial
  have hf1 := find_ok op 21 24 27 29 (by omega) (by omega) (by omega) (by omega)
  rw [show findS op 21 24 27 29 = -1 from by unfold findS; rw [if_neg (by omega), if_neg (by omega), if_neg (by omega), if_neg (by omega)]] at hf1
  have hf2 := find_ok op 22 25 27 29 (by omega) (by omega) (by omega) (by omega)
  rw [show findS op 22 25 27 29 = -1 from by unfold findS; rw [if_neg (by omega), if_neg (by omega), if_neg (by omega), if_neg (by omega)]] at hf2
  have he : exS op i v = (0, 1) := by
    unfold exS; rw [if_pos (.inl (by unfold extW; rw [if_neg (by omega), if_neg (by omega), if_neg (by omega), if_neg (by omega)]))]
  rw [he]
  refine AC.enter Try.func13 rfl (Nat.le_of_ble_eq_true rfl) ?_
  simp only [Try.f13]
  have hchk : True := by simp only [TY, slx, take16, drop16, dz, nums_length, hl]
  repeat' (first
    | (refine AWL.opN (sl := SL) rfl rfl rfl trivial ?_; (try (conv => arg -1; simp (disch := omega) only [NSX, Nat.reduceBEq, Nat.reduceAdd, Nat.reduceMul, Int.reduceToNat, Nat.reduceSub, TY, slx, take16, drop16, dz, nums_length, hl])))
    | (refine AW.seqQ ?_; intro Qn hQn)
    | (refine AW.blockQ ?_; intro Qn hQn)
    | refine AW.region ?_
    | ((first | refine AW.skip ?_ | refine AW.ret ?_ | refine AW.exit ?_ | refine AWL.nil ?_ | refine CW.nil ?_); (repeat (first | refine QEq.mp (by assumption) ?_ | simp only [thenQ, Go.Abs.blockQ, ↓reduceIte, Nat.reduceEqDiff])))
    | refine FW.nil ?_
    | refine FW.pass rfl rfl ?_
    | refine FW.go rfl ?_
    | refine CW.skip rfl rfl ?_
    | refine CW.step rfl rfl rfl rfl rfl ?_
    | ((first
      | (refine AWL.boxF (t := 26) rfl rfl rfl rfl rfl ?_)
      | (refine AWL.allocF (t := 26) rfl rfl rfl rfl rfl rfl ?_)
      | (refine CWr.allocF (t := 26) rfl rfl rfl ?_ ?_)
      | (refine AWL.op (sl := SL) rfl rfl ?_ ?_)
      | (refine FW.float rfl rfl rfl rfl rfl ?_)
      | (refine CWr.op rfl ?_ ?_ ?_)
      | (refine CWr.assign rfl ?_ ?_)
      | (refine CWr.alloc rfl rfl rfl rfl ?_)
      | (refine CWr.build rfl rfl rfl rfl ?_ rfl rfl rfl ?_)
      | (refine AWL.frzA rfl rfl ?_)
      | (refine AWL.callV (f := 27) rfl rfl rfl rfl ?_ (Nat.le_of_ble_eq_true rfl) rfl (hf1) ?_; (focus kernel_rfl))
      | (refine AWL.call (f := 27) rfl rfl rfl ?_ rfl (Nat.le_of_ble_eq_true rfl) rfl (hf1) ?_; (focus kernel_rfl))
      | (refine CWr.call (f := 27) rfl ?_ rfl (hf1) (fun _ _ h => h) ?_ ?_ ?_; (focus kernel_rfl))
      | (refine AWL.callV (f := 27) rfl rfl rfl rfl ?_ (Nat.le_of_ble_eq_true rfl) rfl (hf2) ?_; (focus kernel_rfl))
      | (refine AWL.call (f := 27) rfl rfl rfl ?_ rfl (Nat.le_of_ble_eq_true rfl) rfl (hf2) ?_; (focus kernel_rfl))
      | (refine CWr.call (f := 27) rfl ?_ rfl (hf2) (fun _ _ h => h) ?_ ?_ ?_; (focus kernel_rfl))
      | (refine AWL.callV (f := 27) rfl rfl rfl rfl ?_ (Nat.le_of_ble_eq_true rfl) rfl (hf3) ?_; (focus kernel_rfl))
      | (refine AWL.call (f := 27) rfl rfl rfl ?_ rfl (Nat.le_of_ble_eq_true rfl) rfl (hf3) ?_; (focus kernel_rfl))
      | (refine CWr.call (f := 27) rfl ?_ rfl (hf3) (fun _ _ h => h) ?_ ?_ ?_; (focus kernel_rfl))
      | (refine AWL.callV (f := 28) rfl rfl rfl rfl ?_ (Nat.le_of_ble_eq_true rfl) rfl (hwid) ?_; (focus kernel_rfl))
      | (refine AWL.call (f := 28) rfl rfl rfl ?_ rfl (Nat.le_of_ble_eq_true rfl) rfl (hwid) ?_; (focus kernel_rfl))
      | (refine CWr.call (f := 28) rfl ?_ rfl (hwid) (fun _ _ h => h) ?_ ?_ ?_; (focus kernel_rfl))
      | (refine AWL.callV (f := 30) rfl rfl rfl rfl ?_ (Nat.le_of_ble_eq_true rfl) rfl (rsigned_ok _ hl hb _ _) ?_; (focus kernel_rfl))
      | (refine AWL.call (f := 30) rfl rfl rfl ?_ rfl (Nat.le_of_ble_eq_true rfl) rfl (rsigned_ok _ hl hb _ _) ?_; (focus kernel_rfl))
      | (refine CWr.call (f := 30) rfl ?_ rfl (rsigned_ok _ hl hb _ _) (fun _ _ h => h) ?_ ?_ ?_; (focus kernel_rfl))
      | (refine AWL.callV (f := 31) rfl rfl rfl rfl ?_ (Nat.le_of_ble_eq_true rfl) rfl (rget_ok _ hl hb _ _) ?_; (focus kernel_rfl))
      | (refine AWL.call (f := 31) rfl rfl rfl ?_ rfl (Nat.le_of_ble_eq_true rfl) rfl (rget_ok _ hl hb _ _) ?_; (focus kernel_rfl))
      | (refine CWr.call (f := 31) rfl ?_ rfl (rget_ok _ hl hb _ _) (fun _ _ h => h) ?_ ?_ ?_; (focus kernel_rfl))
      | (refine AWL.callV (f := 32) rfl rfl rfl rfl ?_ (Nat.le_of_ble_eq_true rfl) rfl (rset_ok _ hl hb _ _ _ hx0 hx1) ?_; (focus kernel_rfl))
      | (refine AWL.call (f := 32) rfl rfl rfl ?_ rfl (Nat.le_of_ble_eq_true rfl) rfl (rset_ok _ hl hb _ _ _ hx0 hx1) ?_; (focus kernel_rfl))
      | (refine CWr.call (f := 32) rfl ?_ rfl (rset_ok _ hl hb _ _ _ hx0 hx1) (fun _ _ h => h) ?_ ?_ ?_; (focus kernel_rfl))
      | fail) <;> (try ((first | show AWL _ _ _ _ _ | show AW _ _ _ _ | show FW _ _ _ _ _ _ _ _ _ _ | show CW _ _ _ _ _ _ _ _ _ _ _ _ | (rintro _ _ ⟨rfl, rfl⟩; (try refine And.intro rfl ?_))); (try (conv => arg -1; simp (disch := omega) only [NSX, Nat.reduceBEq, Nat.reduceAdd, Nat.reduceMul, Int.reduceToNat, Nat.reduceSub, TY, slx, take16, drop16, dz, nums_length, hl])))))
    | ((first | refine AWL.guard2 rfl rfl rfl rfl rfl rfl ?_ ?_ | refine CW.guard2 rfl rfl rfl rfl rfl rfl rfl rfl ?_ ?_) <;> (intro hc; (try simp only [Bool.not_true, Bool.not_false] at hc); first | (cases hc; done) | ((try simp only [hc]); (try simp only [beq_iff_eq, bne_iff_ne, decide_eq_true_eq, decide_eq_false_iff_not, beq_eq_false_iff_ne, bne_eq_false_iff_eq, ne_eq, Bool.not_eq_true, Bool.not_eq_false, Bool.not_eq_eq_eq_not, Bool.not_true, Bool.not_false, Decidable.not_not, Int.not_lt, Int.not_le] at hc); (try (exfalso; omega)); (try (guard_hyp hc : True; clear hc)))))
    | (refine AWL.guard2 rfl rfl rfl rfl rfl rfl (fun hc => ?_) ?_; (cases hc; done))
    | ((first | ((show AW _ (.region _ _ true) _ _); refine AW.calm false [] [] hmix (by (repeat' (first | exact panOk_end | exact panOk_endM | refine panOk_then ?_ | refine panOk_block ?_ | refine QEq.pan (by assumption) ?_))) ?_ rfl ?_; (focus (as_aux_lemma => kernel_rfl))) | refine AWL.guardU rfl rfl rfl rfl rfl rfl ?_ | refine CW.guardU rfl rfl rfl rfl rfl rfl rfl rfl ?_); (try (conv => arg -1; simp (disch := omega) only [NSX, Nat.reduceBEq, Nat.reduceAdd, Nat.reduceMul, Int.reduceToNat, Nat.reduceSub, TY, slx, take16, drop16, dz, nums_length, hl])))
    | refine CW.tail rfl ?_
    | (refine AW.cond rfl (fun hc => ?_) (fun hc => ?_) <;> first | (cases hc; done) | ((try simp only [beq_iff_eq, bne_iff_ne, decide_eq_true_eq, decide_eq_false_iff_not, beq_eq_false_iff_ne, bne_eq_false_iff_eq, ne_eq, Bool.not_eq_true, Bool.not_eq_false, Bool.not_eq_eq_eq_not, Bool.not_true, Bool.not_false, Decidable.not_not, Int.not_lt, Int.not_le] at hc); (try (exfalso; omega)); (try (guard_hyp hc : True; clear hc))))
    | ((refine EndQ.mk rfl rfl rfl ?_ ?_ ?_; (focus (first | exact Or.inl rfl | exact Or.inr rfl))) <;> (try simp (disch := omega) only [NSX, Nat.reduceBEq, Nat.reduceAdd, Nat.reduceMul, Int.reduceToNat, Nat.reduceSub, TY, slx, take16, drop16, dz, nums_length, hl]))
    | (focus ((first | exact trivial | omega | (refine And.intro (by kernel_rfl) (And.intro ⟨_, (by first | exact nums_ints _ _ | rfl), (by first | exact nums_ints _ _ | rfl)⟩ (And.intro ?_ ?_)) <;> (first | rfl | assumption | (simp only [nums_length]; omega) | omega)) | (refine And.intro ?_ (And.intro ?_ ?_); (focus kernel_rfl); (focus kernel_rfl); (focus kernel_rfl)) | ((show newKs _ _ _ = true); kernel_rfl) | ((show FitV _ _ _ _ _ _); (repeat' (first | exact trivial | exact Or.inr (Or.inl rfl) | exact Or.inl rfl | exact Or.inr (Or.inr rfl) | refine And.intro ?_ ?_)); done) | assumption | ((first | refine ld_nums i3 _ _ ?_ | refine ld_nums i22 _ _ ?_ | refine ld_nums i5 _ _ ?_ | refine at_nums i3 _ _ ?_ | refine at_nums i22 _ _ ?_ | refine at_nums i5 _ _ ?_); first | assumption | omega | (simp only [List.length_append]; omega)) | (show _ ≤ _; omega) | (simp only [List.length_take, List.length_drop, List.length_append, List.length_cons, List.length_nil]; omega) | ((repeat' (first | exact trivial | exact rfl | exact Nat.le_of_ble_eq_true rfl | refine And.intro ?_ ?_ | fail)); done) | ((try simp (disch := omega) only [NSX, Nat.reduceBEq, Nat.reduceAdd, Nat.reduceMul, Int.reduceToNat, Nat.reduceSub, TY, slx, take16, drop16, dz, nums_length, hl]); (repeat' (first | exact trivial | exact rfl | exact ⟨_, _, rfl⟩ | exact ⟨_, rfl⟩ | exact Nat.le_of_ble_eq_true rfl | exact Nat.zero_lt_succ _ | omega | (simp only [nums_length, toB_len] at *; omega) | refine And.intro ?_ ?_ | fail)); done)); done))
    | fail)
  all_goals first | exact ⟨trivial, trivial⟩ | exact ⟨rfl, trivial⟩ | exact ⟨rfl, rfl⟩ | exact ⟨trivial, rfl⟩ | (exfalso; omega) | trace_state
set_option maxHeartbeats 1600000 in
theorem rrep_64791 (i : Int) (v : List Int) (hl : v.length = 16) (hb : bytes v) (x : Int) (hx0 : 0 ≤ x) (hx1 : x < 2 ^ 64) :
    AC Try.prog 15 [.int .i64 64791, .int .i64 i, .fagg (nums .u8 v), .int .u64 x] (fun r m => r = .tup [.fagg (nums .u8 (reS 64791 i v x).1), .int .i64 (reS 64791 i v x).2] ∧ m = []) := by
  have hf1 : True := trivial
  have hf2 : True := trivial
  have hf3 := find_ok 64791 23 26 28 30 (by omega) (by omega) (by omega) (by omega)
  rw [show findS 64791 23 26 28 30 = 0 from by decide] at hf3
  have hwid : AC Try.prog 28 [.int .i64 0] (fun r m => r = .int .i64 8 ∧ m = []) := width_ok 0 (by decide)
  have hS1 : (set v 8 i x).length = 16 := (set_ok 8 i x hl hb).1
  by_cases hbad : i < 0 ∨ i ≥ 16
  · have he : reS 64791 i v x = (zero16, 1) := by
      unfold reS; rw [show repW 64791 = 8 from by decide, show ((lanes 8 : Nat) : Int) = 16 from by decide, if_pos (by omega)]
    rw [he]
    refine AC.enter Try.func15 rfl (Nat.le_of_ble_eq_true rfl) ?_
    simp only [Try.f15]
    have hchk : True := by simp only [TY, slx, take16, drop16, dz, nums_length, hl, q8, q16, q32, q64]
    repeat' (first
      | (refine AWL.opN (sl := SL) rfl rfl rfl trivial ?_; (try (conv => arg -1; simp (disch := omega) only [NSX, Nat.reduceBEq, Nat.reduceAdd, Nat.reduceMul, Int.reduceToNat, Nat.reduceSub, TY, slx, take16, drop16, dz, nums_length, hl, q8, q16, q32, q64])))
      | (refine AW.seqQ ?_; intro Qn hQn)
      | (refine AW.blockQ ?_; intro Qn hQn)
      | refine AW.region ?_
      | ((first | refine AW.skip ?_ | refine AW.ret ?_ | refine AW.exit ?_ | refine AWL.nil ?_ | refine CW.nil ?_); (repeat (first | refine QEq.mp (by assumption) ?_ | simp only [thenQ, Go.Abs.blockQ, ↓reduceIte, Nat.reduceEqDiff])))
      | refine FW.nil ?_
      | refine FW.pass rfl rfl ?_
      | refine FW.go rfl ?_
      | refine CW.skip rfl rfl ?_
      | refine CW.step rfl rfl rfl rfl rfl ?_
      | ((first
        | (refine AWL.boxF (t := 26) rfl rfl rfl rfl rfl ?_)
        | (refine AWL.allocF (t := 26) rfl rfl rfl rfl rfl rfl ?_)
        | (refine CWr.allocF (t := 26) rfl rfl rfl ?_ ?_)
        | (refine AWL.op (sl := SL) rfl rfl ?_ ?_)
        | (refine FW.float rfl rfl rfl rfl rfl ?_)
        | (refine CWr.op rfl ?_ ?_ ?_)
        | (refine CWr.assign rfl ?_ ?_)
        | (refine CWr.alloc rfl rfl rfl rfl ?_)
        | (refine CWr.build rfl rfl rfl rfl ?_ rfl rfl rfl ?_)
        | (refine AWL.frzA rfl rfl ?_)
        | (refine AWL.callV (f := 27) rfl rfl rfl rfl ?_ (Nat.le_of_ble_eq_true rfl) rfl (hf1) ?_; (focus kernel_rfl))
        | (refine AWL.call (f := 27) rfl rfl rfl ?_ rfl (Nat.le_of_ble_eq_true rfl) rfl (hf1) ?_; (focus kernel_rfl))
        | (refine CWr.call (f := 27) rfl ?_ rfl (hf1) (fun _ _ h => h) ?_ ?_ ?_; (focus kernel_rfl))
        | (refine AWL.callV (f := 27) rfl rfl rfl rfl ?_ (Nat.le_of_ble_eq_true rfl) rfl (hf2) ?_; (focus kernel_rfl))
        | (refine AWL.call (f := 27) rfl rfl rfl ?_ rfl (Nat.le_of_ble_eq_true rfl) rfl (hf2) ?_; (focus kernel_rfl))
        | (refine CWr.call (f := 27) rfl ?_ rfl (hf2) (fun _ _ h => h) ?_ ?_ ?_; (focus kernel_rfl))
        | (refine AWL.callV (f := 27) rfl rfl rfl rfl ?_ (Nat.le_of_ble_eq_true rfl) rfl (hf3) ?_; (focus kernel_rfl))
        | (refine AWL.call (f := 27) rfl rfl rfl ?_ rfl (Nat.le_of_ble_eq_true rfl) rfl (hf3) ?_; (focus kernel_rfl))
        | (refine CWr.call (f := 27) rfl ?_ rfl (hf3) (fun _ _ h => h) ?_ ?_ ?_; (focus kernel_rfl))
        | (refine AWL.callV (f := 28) rfl rfl rfl rfl ?_ (Nat.le_of_ble_eq_true rfl) rfl (hwid) ?_; (focus kernel_rfl))
        | (refine AWL.call (f := 28) rfl rfl rfl ?_ rfl (Nat.le_of_ble_eq_true rfl) rfl (hwid) ?_; (focus kernel_rfl))
        | (refine CWr.call (f := 28) rfl ?_ rfl (hwid) (fun _ _ h => h) ?_ ?_ ?_; (focus kernel_rfl))
        | (refine AWL.callV (f := 30) rfl rfl rfl rfl ?_ (Nat.le_of_ble_eq_true rfl) rfl (rsigned_ok _ hl hb _ _) ?_; (focus kernel_rfl))
        | (refine AWL.call (f := 30) rfl rfl rfl ?_ rfl (Nat.le_of_ble_eq_true rfl) rfl (rsigned_ok _ hl hb _ _) ?_; (focus kernel_rfl))
        | (refine CWr.call (f := 30) rfl ?_ rfl (rsigned_ok _ hl hb _ _) (fun _ _ h => h) ?_ ?_ ?_; (focus kernel_rfl))
        | (refine AWL.callV (f := 31) rfl rfl rfl rfl ?_ (Nat.le_of_ble_eq_true rfl) rfl (rget_ok _ hl hb _ _) ?_; (focus kernel_rfl))
        | (refine AWL.call (f := 31) rfl rfl rfl ?_ rfl (Nat.le_of_ble_eq_true rfl) rfl (rget_ok _ hl hb _ _) ?_; (focus kernel_rfl))
        | (refine CWr.call (f := 31) rfl ?_ rfl (rget_ok _ hl hb _ _) (fun _ _ h => h) ?_ ?_ ?_; (focus kernel_rfl))
        | (refine AWL.callV (f := 32) rfl rfl rfl rfl ?_ (Nat.le_of_ble_eq_true rfl) rfl (rset_ok _ hl hb _ _ _ hx0 hx1) ?_; (focus kernel_rfl))
        | (refine AWL.call (f := 32) rfl rfl rfl ?_ rfl (Nat.le_of_ble_eq_true rfl) rfl (rset_ok _ hl hb _ _ _ hx0 hx1) ?_; (focus kernel_rfl))
        | (refine CWr.call (f := 32) rfl ?_ rfl (rset_ok _ hl hb _ _ _ hx0 hx1) (fun _ _ h => h) ?_ ?_ ?_; (focus kernel_rfl))
        | fail) <;> (try ((first | show AWL _ _ _ _ _ | show AW _ _ _ _ | show FW _ _ _ _ _ _ _ _ _ _ | show CW _ _ _ _ _ _ _ _ _ _ _ _ | (rintro _ _ ⟨rfl, rfl⟩; (try refine And.intro rfl ?_))); (try (conv => arg -1; simp (disch := omega) only [NSX, Nat.reduceBEq, Nat.reduceAdd, Nat.reduceMul, Int.reduceToNat, Nat.reduceSub, TY, slx, take16, drop16, dz, nums_length, hl, q8, q16, q32, q64])))))
      | ((first | refine AWL.guard2 rfl rfl rfl rfl rfl rfl ?_ ?_ | refine CW.guard2 rfl rfl rfl rfl rfl rfl rfl rfl ?_ ?_) <;> (intro hc; (try simp only [Bool.not_true, Bool.not_false] at hc); first | (cases hc; done) | ((try simp only [hc]); (try simp only [beq_iff_eq, bne_iff_ne, decide_eq_true_eq, decide_eq_false_iff_not, beq_eq_false_iff_ne, bne_eq_false_iff_eq, ne_eq, Bool.not_eq_true, Bool.not_eq_false, Bool.not_eq_eq_eq_not, Bool.not_true, Bool.not_false, Decidable.not_not, Int.not_lt, Int.not_le] at hc); (try (exfalso; omega)); (try (guard_hyp hc : True; clear hc)))))
      | (refine AWL.guard2 rfl rfl rfl rfl rfl rfl (fun hc => ?_) ?_; (cases hc; done))
      | ((first | ((show AW _ (.region _ _ true) _ _); refine AW.calm false [] [] hmix (by (repeat' (first | exact panOk_end | exact panOk_endM | refine panOk_then ?_ | refine panOk_block ?_ | refine QEq.pan (by assumption) ?_))) ?_ rfl ?_; (focus (as_aux_lemma => kernel_rfl))) | refine AWL.guardU rfl rfl rfl rfl rfl rfl ?_ | refine CW.guardU rfl rfl rfl rfl rfl rfl rfl rfl ?_); (try (conv => arg -1; simp (disch := omega) only [NSX, Nat.reduceBEq, Nat.reduceAdd, Nat.reduceMul, Int.reduceToNat, Nat.reduceSub, TY, slx, take16, drop16, dz, nums_length, hl, q8, q16, q32, q64])))
      | refine CW.tail rfl ?_
      | (refine AW.cond rfl (fun hc => ?_) (fun hc => ?_) <;> first | (cases hc; done) | ((try simp only [beq_iff_eq, bne_iff_ne, decide_eq_true_eq, decide_eq_false_iff_not, beq_eq_false_iff_ne, bne_eq_false_iff_eq, ne_eq, Bool.not_eq_true, Bool.not_eq_false, Bool.not_eq_eq_eq_not, Bool.not_true, Bool.not_false, Decidable.not_not, Int.not_lt, Int.not_le] at hc); (try (exfalso; omega)); (try (guard_hyp hc : True; clear hc))))
      | ((refine EndQ.mk rfl rfl rfl ?_ ?_ ?_; (focus (first | exact Or.inl rfl | exact Or.inr rfl))) <;> (try simp (disch := omega) only [NSX, Nat.reduceBEq, Nat.reduceAdd, Nat.reduceMul, Int.reduceToNat, Nat.reduceSub, TY, slx, take16, drop16, dz, nums_length, hl, q8, q16, q32, q64]))
      | (focus ((first | exact trivial | omega | (refine And.intro (by kernel_rfl) (And.intro ⟨_, (by first | exact nums_ints _ _ | rfl), (by first | exact nums_ints _ _ | rfl)⟩ (And.intro ?_ ?_)) <;> (first | rfl | assumption | (simp only [nums_length]; omega) | omega)) | (refine And.intro ?_ (And.intro ?_ ?_); (focus kernel_rfl); (focus kernel_rfl); (focus kernel_rfl)) | ((show newKs _ _ _ = true); kernel_rfl) | ((show FitV _ _ _ _ _ _); (repeat' (first | exact trivial | exact Or.inr (Or.inl rfl) | exact Or.inl rfl | exact Or.inr (Or.inr rfl) | refine And.intro ?_ ?_)); done) | assumption | ((first | refine ld_nums i3 _ _ ?_ | refine ld_nums i22 _ _ ?_ | refine ld_nums i5 _ _ ?_ | refine at_nums i3 _ _ ?_ | refine at_nums i22 _ _ ?_ | refine at_nums i5 _ _ ?_); first | assumption | omega | (simp only [List.length_append]; omega)) | (show _ ≤ _; omega) | (simp only [List.length_take, List.length_drop, List.length_append, List.length_cons, List.length_nil]; omega) | ((repeat' (first | exact trivial | exact rfl | exact Nat.le_of_ble_eq_true rfl | refine And.intro ?_ ?_ | fail)); done) | ((try simp (disch := omega) only [NSX, Nat.reduceBEq, Nat.reduceAdd, Nat.reduceMul, Int.reduceToNat, Nat.reduceSub, TY, slx, take16, drop16, dz, nums_length, hl, q8, q16, q32, q64]); (repeat' (first | exact trivial | exact rfl | exact ⟨_, _, rfl⟩ | exact ⟨_, rfl⟩ | exact Nat.le_of_ble_eq_true rfl | exact Nat.zero_lt_succ _ | omega | (simp only [nums_length, toB_len] at *; omega) | refine And.intro ?_ ?_ | fail)); done)); done))
      | fail)
    all_goals first | exact ⟨trivial, trivial⟩ | exact ⟨rfl, trivial⟩ | exact ⟨rfl, rfl⟩ | exact ⟨trivial, rfl⟩ | (exfalso; omega) | trace_state
  · have he : reS 64791 i v x = (set v 8 i x, 0) := by
      unfold reS; rw [show repW 64791 = 8 from by decide, show ((lanes 8 : Nat) : Int) = 16 from by decide, if_neg (by omega)]
    rw [he]
    refine AC.enter Try.func15 rfl (Nat.le_of_ble_eq_true rfl) ?_
    simp only [Try.f15]
    have hchk : True := by simp only [TY, slx, take16, drop16, dz, nums_length, hl, hS1, take16, q8, q16, q32, q64]
    repeat' (first
      | (refine AWL.opN (sl := SL) rfl rfl rfl trivial ?_; (try (conv => arg -1; simp (disch := omega) only [NSX, Nat.reduceBEq, Nat.reduceAdd, Nat.reduceMul, Int.reduceToNat, Nat.reduceSub, TY, slx, take16, drop16, dz, nums_length, hl, hS1, take16, q8, q16, q32, q64])))
      | (refine AW.seqQ ?_; intro Qn hQn)
      | (refine AW.blockQ ?_; intro Qn hQn)
      | refine AW.region ?_
      | ((first | refine AW.skip ?_ | refine AW.ret ?_ | refine AW.exit ?_ | refine AWL.nil ?_ | refine CW.nil ?_); (repeat (first | refine QEq.mp (by assumption) ?_ | simp only [thenQ, Go.Abs.blockQ, ↓reduceIte, Nat.reduceEqDiff])))
      | refine FW.nil ?_
      | refine FW.pass rfl rfl ?_
      | refine FW.go rfl ?_
      | refine CW.skip rfl rfl ?_
      | refine CW.step rfl rfl rfl rfl rfl ?_
      | ((first
        | (refine AWL.boxF (t := 26) rfl rfl rfl rfl rfl ?_)
        | (refine AWL.allocF (t := 26) rfl rfl rfl rfl rfl rfl ?_)
        | (refine CWr.allocF (t := 26) rfl rfl rfl ?_ ?_)
        | (refine AWL.op (sl := SL) rfl rfl ?_ ?_)
        | (refine FW.float rfl rfl rfl rfl rfl ?_)
        | (refine CWr.op rfl ?_ ?_ ?_)
        | (refine CWr.assign rfl ?_ ?_)
        | (refine CWr.alloc rfl rfl rfl rfl ?_)
        | (refine CWr.build rfl rfl rfl rfl ?_ rfl rfl rfl ?_)
        | (refine AWL.frzA rfl rfl ?_)
        | (refine AWL.callV (f := 27) rfl rfl rfl rfl ?_ (Nat.le_of_ble_eq_true rfl) rfl (hf1) ?_; (focus kernel_rfl))
        | (refine AWL.call (f := 27) rfl rfl rfl ?_ rfl (Nat.le_of_ble_eq_true rfl) rfl (hf1) ?_; (focus kernel_rfl))
        | (refine CWr.call (f := 27) rfl ?_ rfl (hf1) (fun _ _ h => h) ?_ ?_ ?_; (focus kernel_rfl))
        | (refine AWL.callV (f := 27) rfl rfl rfl rfl ?_ (Nat.le_of_ble_eq_true rfl) rfl (hf2) ?_; (focus kernel_rfl))
        | (refine AWL.call (f := 27) rfl rfl rfl ?_ rfl (Nat.le_of_ble_eq_true rfl) rfl (hf2) ?_; (focus kernel_rfl))
        | (refine CWr.call (f := 27) rfl ?_ rfl (hf2) (fun _ _ h => h) ?_ ?_ ?_; (focus kernel_rfl))
        | (refine AWL.callV (f := 27) rfl rfl rfl rfl ?_ (Nat.le_of_ble_eq_true rfl) rfl (hf3) ?_; (focus kernel_rfl))
        | (refine AWL.call (f := 27) rfl rfl rfl ?_ rfl (Nat.le_of_ble_eq_true rfl) rfl (hf3) ?_; (focus kernel_rfl))
        | (refine CWr.call (f := 27) rfl ?_ rfl (hf3) (fun _ _ h => h) ?_ ?_ ?_; (focus kernel_rfl))
        | (refine AWL.callV (f := 28) rfl rfl rfl rfl ?_ (Nat.le_of_ble_eq_true rfl) rfl (hwid) ?_; (focus kernel_rfl))
        | (refine AWL.call (f := 28) rfl rfl rfl ?_ rfl (Nat.le_of_ble_eq_true rfl) rfl (hwid) ?_; (focus kernel_rfl))
        | (refine CWr.call (f := 28) rfl ?_ rfl (hwid) (fun _ _ h => h) ?_ ?_ ?_; (focus kernel_rfl))
        | (refine AWL.callV (f := 30) rfl rfl rfl rfl ?_ (Nat.le_of_ble_eq_true rfl) rfl (rsigned_ok _ hl hb _ _) ?_; (focus kernel_rfl))
        | (refine AWL.call (f := 30) rfl rfl rfl ?_ rfl (Nat.le_of_ble_eq_true rfl) rfl (rsigned_ok _ hl hb _ _) ?_; (focus kernel_rfl))
        | (refine CWr.call (f := 30) rfl ?_ rfl (rsigned_ok _ hl hb _ _) (fun _ _ h => h) ?_ ?_ ?_; (focus kernel_rfl))
        | (refine AWL.callV (f := 31) rfl rfl rfl rfl ?_ (Nat.le_of_ble_eq_true rfl) rfl (rget_ok _ hl hb _ _) ?_; (focus kernel_rfl))
        | (refine AWL.call (f := 31) rfl rfl rfl ?_ rfl (Nat.le_of_ble_eq_true rfl) rfl (rget_ok _ hl hb _ _) ?_; (focus kernel_rfl))
        | (refine CWr.call (f := 31) rfl ?_ rfl (rget_ok _ hl hb _ _) (fun _ _ h => h) ?_ ?_ ?_; (focus kernel_rfl))
        | (refine AWL.callV (f := 32) rfl rfl rfl rfl ?_ (Nat.le_of_ble_eq_true rfl) rfl (rset_ok _ hl hb _ _ _ hx0 hx1) ?_; (focus kernel_rfl))
        | (refine AWL.call (f := 32) rfl rfl rfl ?_ rfl (Nat.le_of_ble_eq_true rfl) rfl (rset_ok _ hl hb _ _ _ hx0 hx1) ?_; (focus kernel_rfl))
        | (refine CWr.call (f := 32) rfl ?_ rfl (rset_ok _ hl hb _ _ _ hx0 hx1) (fun _ _ h => h) ?_ ?_ ?_; (focus kernel_rfl))
        | fail) <;> (try ((first | show AWL _ _ _ _ _ | show AW _ _ _ _ | show FW _ _ _ _ _ _ _ _ _ _ | show CW _ _ _ _ _ _ _ _ _ _ _ _ | (rintro _ _ ⟨rfl, rfl⟩; (try refine And.intro rfl ?_))); (try (conv => arg -1; simp (disch := omega) only [NSX, Nat.reduceBEq, Nat.reduceAdd, Nat.reduceMul, Int.reduceToNat, Nat.reduceSub, TY, slx, take16, drop16, dz, nums_length, hl, hS1, take16, q8, q16, q32, q64])))))
      | ((first | refine AWL.guard2 rfl rfl rfl rfl rfl rfl ?_ ?_ | refine CW.guard2 rfl rfl rfl rfl rfl rfl rfl rfl ?_ ?_) <;> (intro hc; (try simp only [Bool.not_true, Bool.not_false] at hc); first | (cases hc; done) | ((try simp only [hc]); (try simp only [beq_iff_eq, bne_iff_ne, decide_eq_true_eq, decide_eq_false_iff_not, beq_eq_false_iff_ne, bne_eq_false_iff_eq, ne_eq, Bool.not_eq_true, Bool.not_eq_false, Bool.not_eq_eq_eq_not, Bool.not_true, Bool.not_false, Decidable.not_not, Int.not_lt, Int.not_le] at hc); (try (exfalso; omega)); (try (guard_hyp hc : True; clear hc)))))
      | (refine AWL.guard2 rfl rfl rfl rfl rfl rfl (fun hc => ?_) ?_; (cases hc; done))
      | ((first | ((show AW _ (.region _ _ true) _ _); refine AW.calm false [] [] hmix (by (repeat' (first | exact panOk_end | exact panOk_endM | refine panOk_then ?_ | refine panOk_block ?_ | refine QEq.pan (by assumption) ?_))) ?_ rfl ?_; (focus (as_aux_lemma => kernel_rfl))) | refine AWL.guardU rfl rfl rfl rfl rfl rfl ?_ | refine CW.guardU rfl rfl rfl rfl rfl rfl rfl rfl ?_); (try (conv => arg -1; simp (disch := omega) only [NSX, Nat.reduceBEq, Nat.reduceAdd, Nat.reduceMul, Int.reduceToNat, Nat.reduceSub, TY, slx, take16, drop16, dz, nums_length, hl, hS1, take16, q8, q16, q32, q64])))
      | refine CW.tail rfl ?_
      | (refine AW.cond rfl (fun hc => ?_) (fun hc => ?_) <;> first | (cases hc; done) | ((try simp only [beq_iff_eq, bne_iff_ne, decide_eq_true_eq, decide_eq_false_iff_not, beq_eq_false_iff_ne, bne_eq_false_iff_eq, ne_eq, Bool.not_eq_true, Bool.not_eq_false, Bool.not_eq_eq_eq_not, Bool.not_true, Bool.not_false, Decidable.not_not, Int.not_lt, Int.not_le] at hc); (try (exfalso; omega)); (try (guard_hyp hc : True; clear hc))))
      | ((refine EndQ.mk rfl rfl rfl ?_ ?_ ?_; (focus (first | exact Or.inl rfl | exact Or.inr rfl))) <;> (try simp (disch := omega) only [NSX, Nat.reduceBEq, Nat.reduceAdd, Nat.reduceMul, Int.reduceToNat, Nat.reduceSub, TY, slx, take16, drop16, dz, nums_length, hl, hS1, take16, q8, q16, q32, q64]))
      | (focus ((first | exact trivial | omega | (refine And.intro (by kernel_rfl) (And.intro ⟨_, (by first | exact nums_ints _ _ | rfl), (by first | exact nums_ints _ _ | rfl)⟩ (And.intro ?_ ?_)) <;> (first | rfl | assumption | (simp only [nums_length]; omega) | omega)) | (refine And.intro ?_ (And.intro ?_ ?_); (focus kernel_rfl); (focus kernel_rfl); (focus kernel_rfl)) | ((show newKs _ _ _ = true); kernel_rfl) | ((show FitV _ _ _ _ _ _); (repeat' (first | exact trivial | exact Or.inr (Or.inl rfl) | exact Or.inl rfl | exact Or.inr (Or.inr rfl) | refine And.intro ?_ ?_)); done) | assumption | ((first | refine ld_nums i3 _ _ ?_ | refine ld_nums i22 _ _ ?_ | refine ld_nums i5 _ _ ?_ | refine at_nums i3 _ _ ?_ | refine at_nums i22 _ _ ?_ | refine at_nums i5 _ _ ?_); first | assumption | omega | (simp only [List.length_append]; omega)) | (show _ ≤ _; omega) | (simp only [List.length_take, List.length_drop, List.length_append, List.length_cons, List.length_nil]; omega) | ((repeat' (first | exact trivial | exact rfl | exact Nat.le_of_ble_eq_true rfl | refine And.intro ?_ ?_ | fail)); done) | ((try simp (disch := omega) only [NSX, Nat.reduceBEq, Nat.reduceAdd, Nat.reduceMul, Int.reduceToNat, Nat.reduceSub, TY, slx, take16, drop16, dz, nums_length, hl, hS1, take16, q8, q16, q32, q64]); (repeat' (first | exact trivial | exact rfl | exact ⟨_, _, rfl⟩ | exact ⟨_, rfl⟩ | exact Nat.le_of_ble_eq_true rfl | exact Nat.zero_lt_succ _ | omega | (simp only [nums_length, toB_len] at *; omega) | refine And.intro ?_ ?_ | fail)); done)); done))
      | fail)
    all_goals first | exact ⟨trivial, trivial⟩ | exact ⟨rfl, trivial⟩ | exact ⟨rfl, rfl⟩ | exact ⟨trivial, rfl⟩ | (exfalso; omega) | trace_state
set_option maxHeartbeats 1600000 in
theorem rrep_64794 (i : Int) (v : List Int) (hl : v.length = 16) (hb : bytes v) (x : Int) (hx0 : 0 ≤ x) (hx1 : x < 2 ^ 64) :
    AC Try.prog 15 [.int .i64 64794, .int .i64 i, .fagg (nums .u8 v), .int .u64 x] (fun r m => r = .tup [.fagg (nums .u8 (reS 64794 i v x).1), .int .i64 (reS 64794 i v x).2] ∧ m = []) := by
  have hf1 : True := trivial
  have hf2 : True := trivial
  have hf3 := find_ok 64794 23 26 28 30 (by omega) (by omega) (by omega) (by omega)
  rw [show findS 64794 23 26 28 30 = 1 from by decide] at hf3
  have hwid : AC Try.prog 28 [.int .i64 1] (fun r m => r = .int .i64 16 ∧ m = []) := width_ok 1 (by decide)
  have hS1 : (set v 16 i x).length = 16 := (set_ok 16 i x hl hb).1
  by_cases hbad : i < 0 ∨ i ≥ 8
  · have he : reS 64794 i v x = (zero16, 1) := by
      unfold reS; rw [show repW 64794 = 16 from by decide, show ((lanes 16 : Nat) : Int) = 8 from by decide, if_pos (by omega)]
    rw [he]
    refine AC.enter Try.func15 rfl (Nat.le_of_ble_eq_true rfl) ?_
    simp only [Try.f15]
    have hchk : True := by simp only [TY, slx, take16, drop16, dz, nums_length, hl, q8, q16, q32, q64]
    repeat' (first
      | (refine AWL.opN (sl := SL) rfl rfl rfl trivial ?_; (try (conv => arg -1; simp (disch := omega) only [NSX, Nat.reduceBEq, Nat.reduceAdd, Nat.reduceMul, Int.reduceToNat, Nat.reduceSub, TY, slx, take16, drop16, dz, nums_length, hl, q8, q16, q32, q64])))
      | (refine AW.seqQ ?_; intro Qn hQn)
      | (refine AW.blockQ ?_; intro Qn hQn)
      | refine AW.region ?_
      | ((first | refine AW.skip ?_ | refine AW.ret ?_ | refine AW.exit ?_ | refine AWL.nil ?_ | refine CW.nil ?_); (repeat (first | refine QEq.mp (by assumption) ?_ | simp only [thenQ, Go.Abs.blockQ, ↓reduceIte, Nat.reduceEqDiff])))
      | refine FW.nil ?_
      | refine FW.pass rfl rfl ?_
      | refine FW.go rfl ?_
      | refine CW.skip rfl rfl ?_
      | refine CW.step rfl rfl rfl rfl rfl ?_
      | ((first
        | (refine AWL.boxF (t := 26) rfl rfl rfl rfl rfl ?_)
        | (refine AWL.allocF (t := 26) rfl rfl rfl rfl rfl rfl ?_)
        | (refine CWr.allocF (t := 26) rfl rfl rfl ?_ ?_)
        | (refine AWL.op (sl := SL) rfl rfl ?_ ?_)
        | (refine FW.float rfl rfl rfl rfl rfl ?_)
        | (refine CWr.op rfl ?_ ?_ ?_)
        | (refine CWr.assign rfl ?_ ?_)
        | (refine CWr.alloc rfl rfl rfl rfl ?_)
        | (refine CWr.build rfl rfl rfl rfl ?_ rfl rfl rfl ?_)
        | (refine AWL.frzA rfl rfl ?_)
        | (refine AWL.callV (f := 27) rfl rfl rfl rfl ?_ (Nat.le_of_ble_eq_true rfl) rfl (hf1) ?_; (focus kernel_rfl))
        | (refine AWL.call (f := 27) rfl rfl rfl ?_ rfl (Nat.le_of_ble_eq_true rfl) rfl (hf1) ?_; (focus kernel_rfl))
        | (refine CWr.call (f := 27) rfl ?_ rfl (hf1) (fun _ _ h => h) ?_ ?_ ?_; (focus kernel_rfl))
        | (refine AWL.callV (f := 27) rfl rfl rfl rfl ?_ (Nat.le_of_ble_eq_true rfl) rfl (hf2) ?_; (focus kernel_rfl))
        | (refine AWL.call (f := 27) rfl rfl rfl ?_ rfl (Nat.le_of_ble_eq_true rfl) rfl (hf2) ?_; (focus kernel_rfl))
        | (refine CWr.call (f := 27) rfl ?_ rfl (hf2) (fun _ _ h => h) ?_ ?_ ?_; (focus kernel_rfl))
        | (refine AWL.callV (f := 27) rfl rfl rfl rfl ?_ (Nat.le_of_ble_eq_true rfl) rfl (hf3) ?_; (focus kernel_rfl))
        | (refine AWL.call (f := 27) rfl rfl rfl ?_ rfl (Nat.le_of_ble_eq_true rfl) rfl (hf3) ?_; (focus kernel_rfl))
        | (refine CWr.call (f := 27) rfl ?_ rfl (hf3) (fun _ _ h => h) ?_ ?_ ?_; (focus kernel_rfl))
        | (refine AWL.callV (f := 28) rfl rfl rfl rfl ?_ (Nat.le_of_ble_eq_true rfl) rfl (hwid) ?_; (focus kernel_rfl))
        | (refine AWL.call (f := 28) rfl rfl rfl ?_ rfl (Nat.le_of_ble_eq_true rfl) rfl (hwid) ?_; (focus kernel_rfl))
        | (refine CWr.call (f := 28) rfl ?_ rfl (hwid) (fun _ _ h => h) ?_ ?_ ?_; (focus kernel_rfl))
        | (refine AWL.callV (f := 30) rfl rfl rfl rfl ?_ (Nat.le_of_ble_eq_true rfl) rfl (rsigned_ok _ hl hb _ _) ?_; (focus kernel_rfl))
        | (refine AWL.call (f := 30) rfl rfl rfl ?_ rfl (Nat.le_of_ble_eq_true rfl) rfl (rsigned_ok _ hl hb _ _) ?_; (focus kernel_rfl))
        | (refine CWr.call (f := 30) rfl ?_ rfl (rsigned_ok _ hl hb _ _) (fun _ _ h => h) ?_ ?_ ?_; (focus kernel_rfl))
        | (refine AWL.callV (f := 31) rfl rfl rfl rfl ?_ (Nat.le_of_ble_eq_true rfl) rfl (rget_ok _ hl hb _ _) ?_; (focus kernel_rfl))
        | (refine AWL.call (f := 31) rfl rfl rfl ?_ rfl (Nat.le_of_ble_eq_true rfl) rfl (rget_ok _ hl hb _ _) ?_; (focus kernel_rfl))
        | (refine CWr.call (f := 31) rfl ?_ rfl (rget_ok _ hl hb _ _) (fun _ _ h => h) ?_ ?_ ?_; (focus kernel_rfl))
        | (refine AWL.callV (f := 32) rfl rfl rfl rfl ?_ (Nat.le_of_ble_eq_true rfl) rfl (rset_ok _ hl hb _ _ _ hx0 hx1) ?_; (focus kernel_rfl))
        | (refine AWL.call (f := 32) rfl rfl rfl ?_ rfl (Nat.le_of_ble_eq_true rfl) rfl (rset_ok _ hl hb _ _ _ hx0 hx1) ?_; (focus kernel_rfl))
        | (refine CWr.call (f := 32) rfl ?_ rfl (rset_ok _ hl hb _ _ _ hx0 hx1) (fun _ _ h => h) ?_ ?_ ?_; (focus kernel_rfl))
        | fail) <;> (try ((first | show AWL _ _ _ _ _ | show AW _ _ _ _ | show FW _ _ _ _ _ _ _ _ _ _ | show CW _ _ _ _ _ _ _ _ _ _ _ _ | (rintro _ _ ⟨rfl, rfl⟩; (try refine And.intro rfl ?_))); (try (conv => arg -1; simp (disch := omega) only [NSX, Nat.reduceBEq, Nat.reduceAdd, Nat.reduceMul, Int.reduceToNat, Nat.reduceSub, TY, slx, take16, drop16, dz, nums_length, hl, q8, q16, q32, q64])))))
      | ((first | refine AWL.guard2 rfl rfl rfl rfl rfl rfl ?_ ?_ | refine CW.guard2 rfl rfl rfl rfl rfl rfl rfl rfl ?_ ?_) <;> (intro hc; (try simp only [Bool.not_true, Bool.not_false] at hc); first | (cases hc; done) | ((try simp only [hc]); (try simp only [beq_iff_eq, bne_iff_ne, decide_eq_true_eq, decide_eq_false_iff_not, beq_eq_false_iff_ne, bne_eq_false_iff_eq, ne_eq, Bool.not_eq_true, Bool.not_eq_false, Bool.not_eq_eq_eq_not, Bool.not_true, Bool.not_false, Decidable.not_not, Int.not_lt, Int.not_le] at hc); (try (exfalso; omega)); (try (guard_hyp hc : True; clear hc)))))
      | (refine AWL.guard2 rfl rfl rfl rfl rfl rfl (fun hc => ?_) ?_; (cases hc; done))
      | ((first | ((show AW _ (.region _ _ true) _ _); refine AW.calm false [] [] hmix (by (repeat' (first | exact panOk_end | exact panOk_endM | refine panOk_then ?_ | refine panOk_block ?_ | refine QEq.pan (by assumption) ?_))) ?_ rfl ?_; (focus (as_aux_lemma => kernel_rfl))) | refine AWL.guardU rfl rfl rfl rfl rfl rfl ?_ | refine CW.guardU rfl rfl rfl rfl rfl rfl rfl rfl ?_); (try (conv => arg -1; simp (disch := omega) only [NSX, Nat.reduceBEq, Nat.reduceAdd, Nat.reduceMul, Int.reduceToNat, Nat.reduceSub, TY, slx, take16, drop16, dz, nums_length, hl, q8, q16, q32, q64])))
      | refine CW.tail rfl ?_
      | (refine AW.cond rfl (fun hc => ?_) (fun hc => ?_) <;> first | (cases hc; done) | ((try simp only [beq_iff_eq, bne_iff_ne, decide_eq_true_eq, decide_eq_false_iff_not, beq_eq_false_iff_ne, bne_eq_false_iff_eq, ne_eq, Bool.not_eq_true, Bool.not_eq_false, Bool.not_eq_eq_eq_not, Bool.not_true, Bool.not_false, Decidable.not_not, Int.not_lt, Int.not_le] at hc); (try (exfalso; omega)); (try (guard_hyp hc : True; clear hc))))
      | ((refine EndQ.mk rfl rfl rfl ?_ ?_ ?_; (focus (first | exact Or.inl rfl | exact Or.inr rfl))) <;> (try simp (disch := omega) only [NSX, Nat.reduceBEq, Nat.reduceAdd, Nat.reduceMul, Int.reduceToNat, Nat.reduceSub, TY, slx, take16, drop16, dz, nums_length, hl, q8, q16, q32, q64]))
      | (focus ((first | exact trivial | omega | (refine And.intro (by kernel_rfl) (And.intro ⟨_, (by first | exact nums_ints _ _ | rfl), (by first | exact nums_ints _ _ | rfl)⟩ (And.intro ?_ ?_)) <;> (first | rfl | assumption | (simp only [nums_length]; omega) | omega)) | (refine And.intro ?_ (And.intro ?_ ?_); (focus kernel_rfl); (focus kernel_rfl); (focus kernel_rfl)) | ((show newKs _ _ _ = true); kernel_rfl) | ((show FitV _ _ _ _ _ _); (repeat' (first | exact trivial | exact Or.inr (Or.inl rfl) | exact Or.inl rfl | exact Or.inr (Or.inr rfl) | refine And.intro ?_ ?_)); done) | assumption | ((first | refine ld_nums i3 _ _ ?_ | refine ld_nums i22 _ _ ?_ | refine ld_nums i5 _ _ ?_ | refine at_nums i3 _ _ ?_ | refine at_nums i22 _ _ ?_ | refine at_nums i5 _ _ ?_); first | assumption | omega | (simp only [List.length_append]; omega)) | (show _ ≤ _; omega) | (simp only [List.length_take, List.length_drop, List.length_append, List.length_cons, List.length_nil]; omega) | ((repeat' (first | exact trivial | exact rfl | exact Nat.le_of_ble_eq_true rfl | refine And.intro ?_ ?_ | fail)); done) | ((try simp (disch := omega) only [NSX, Nat.reduceBEq, Nat.reduceAdd, Nat.reduceMul, Int.reduceToNat, Nat.reduceSub, TY, slx, take16, drop16, dz, nums_length, hl, q8, q16, q32, q64]); (repeat' (first | exact trivial | exact rfl | exact ⟨_, _, rfl⟩ | exact ⟨_, rfl⟩ | exact Nat.le_of_ble_eq_true rfl | exact Nat.zero_lt_succ _ | omega | (simp only [nums_length, toB_len] at *; omega) | refine And.intro ?_ ?_ | fail)); done)); done))
      | fail)
    all_goals first | exact ⟨trivial, trivial⟩ | exact ⟨rfl, trivial⟩ | exact ⟨rfl, rfl⟩ | exact ⟨trivial, rfl⟩ | (exfalso; omega) | trace_state
  · have he : reS 64794 i v x = (set v 16 i x, 0) := by
      unfold reS; rw [show repW 64794 = 16 from by decide, show ((lanes 16 : Nat) : Int) = 8 from by decide, if_neg (by omega)]
    rw [he]
    refine AC.enter Try.func15 rfl (Nat.le_of_ble_eq_true rfl) ?_
    simp only [Try.f15]
    have hchk : True := by simp only [TY, slx, take16, drop16, dz, nums_length, hl, hS1, take16, q8, q16, q32, q64]
    repeat' (first
      | (refine AWL.opN (sl := SL) rfl rfl rfl trivial ?_; (try (conv => arg -1; simp (disch := omega) only [NSX, Nat.reduceBEq, Nat.reduceAdd, Nat.reduceMul, Int.reduceToNat, Nat.reduceSub, TY, slx, take16, drop16, dz, nums_length, hl, hS1, take16, q8, q16, q32, q64])))
      | (refine AW.seqQ ?_; intro Qn hQn)
      | (refine AW.blockQ ?_; intro Qn hQn)
      | refine AW.region ?_
      | ((first | refine AW.skip ?_ | refine AW.ret ?_ | refine AW.exit ?_ | refine AWL.nil ?_ | refine CW.nil ?_); (repeat (first | refine QEq.mp (by assumption) ?_ | simp only [thenQ, Go.Abs.blockQ, ↓reduceIte, Nat.reduceEqDiff])))
      | refine FW.nil ?_
      | refine FW.pass rfl rfl ?_
      | refine FW.go rfl ?_
      | refine CW.skip rfl rfl ?_
      | refine CW.step rfl rfl rfl rfl rfl ?_
      | ((first
        | (refine AWL.boxF (t := 26) rfl rfl rfl rfl rfl ?_)
        | (refine AWL.allocF (t := 26) rfl rfl rfl rfl rfl rfl ?_)
        | (refine CWr.allocF (t := 26) rfl rfl rfl ?_ ?_)
        | (refine AWL.op (sl := SL) rfl rfl ?_ ?_)
        | (refine FW.float rfl rfl rfl rfl rfl ?_)
        | (refine CWr.op rfl ?_ ?_ ?_)
        | (refine CWr.assign rfl ?_ ?_)
        | (refine CWr.alloc rfl rfl rfl rfl ?_)
        | (refine CWr.build rfl rfl rfl rfl ?_ rfl rfl rfl ?_)
        | (refine AWL.frzA rfl rfl ?_)
        | (refine AWL.callV (f := 27) rfl rfl rfl rfl ?_ (Nat.le_of_ble_eq_true rfl) rfl (hf1) ?_; (focus kernel_rfl))
        | (refine AWL.call (f := 27) rfl rfl rfl ?_ rfl (Nat.le_of_ble_eq_true rfl) rfl (hf1) ?_; (focus kernel_rfl))
        | (refine CWr.call (f := 27) rfl ?_ rfl (hf1) (fun _ _ h => h) ?_ ?_ ?_; (focus kernel_rfl))
        | (refine AWL.callV (f := 27) rfl rfl rfl rfl ?_ (Nat.le_of_ble_eq_true rfl) rfl (hf2) ?_; (focus kernel_rfl))
        | (refine AWL.call (f := 27) rfl rfl rfl ?_ rfl (Nat.le_of_ble_eq_true rfl) rfl (hf2) ?_; (focus kernel_rfl))
        | (refine CWr.call (f := 27) rfl ?_ rfl (hf2) (fun _ _ h => h) ?_ ?_ ?_; (focus kernel_rfl))
        | (refine AWL.callV (f := 27) rfl rfl rfl rfl ?_ (Nat.le_of_ble_eq_true rfl) rfl (hf3) ?_; (focus kernel_rfl))
        | (refine AWL.call (f := 27) rfl rfl rfl ?_ rfl (Nat.le_of_ble_eq_true rfl) rfl (hf3) ?_; (focus kernel_rfl))
        | (refine CWr.call (f := 27) rfl ?_ rfl (hf3) (fun _ _ h => h) ?_ ?_ ?_; (focus kernel_rfl))
        | (refine AWL.callV (f := 28) rfl rfl rfl rfl ?_ (Nat.le_of_ble_eq_true rfl) rfl (hwid) ?_; (focus kernel_rfl))
        | (refine AWL.call (f := 28) rfl rfl rfl ?_ rfl (Nat.le_of_ble_eq_true rfl) rfl (hwid) ?_; (focus kernel_rfl))
        | (refine CWr.call (f := 28) rfl ?_ rfl (hwid) (fun _ _ h => h) ?_ ?_ ?_; (focus kernel_rfl))
        | (refine AWL.callV (f := 30) rfl rfl rfl rfl ?_ (Nat.le_of_ble_eq_true rfl) rfl (rsigned_ok _ hl hb _ _) ?_; (focus kernel_rfl))
        | (refine AWL.call (f := 30) rfl rfl rfl ?_ rfl (Nat.le_of_ble_eq_true rfl) rfl (rsigned_ok _ hl hb _ _) ?_; (focus kernel_rfl))
        | (refine CWr.call (f := 30) rfl ?_ rfl (rsigned_ok _ hl hb _ _) (fun _ _ h => h) ?_ ?_ ?_; (focus kernel_rfl))
        | (refine AWL.callV (f := 31) rfl rfl rfl rfl ?_ (Nat.le_of_ble_eq_true rfl) rfl (rget_ok _ hl hb _ _) ?_; (focus kernel_rfl))
        | (refine AWL.call (f := 31) rfl rfl rfl ?_ rfl (Nat.le_of_ble_eq_true rfl) rfl (rget_ok _ hl hb _ _) ?_; (focus kernel_rfl))
        | (refine CWr.call (f := 31) rfl ?_ rfl (rget_ok _ hl hb _ _) (fun _ _ h => h) ?_ ?_ ?_; (focus kernel_rfl))
        | (refine AWL.callV (f := 32) rfl rfl rfl rfl ?_ (Nat.le_of_ble_eq_true rfl) rfl (rset_ok _ hl hb _ _ _ hx0 hx1) ?_; (focus kernel_rfl))
        | (refine AWL.call (f := 32) rfl rfl rfl ?_ rfl (Nat.le_of_ble_eq_true rfl) rfl (rset_ok _ hl hb _ _ _ hx0 hx1) ?_; (focus kernel_rfl))
        | (refine CWr.call (f := 32) rfl ?_ rfl (rset_ok _ hl hb _ _ _ hx0 hx1) (fun _ _ h => h) ?_ ?_ ?_; (focus kernel_rfl))
        | fail) <;> (try ((first | show AWL _ _ _ _ _ | show AW _ _ _ _ | show FW _ _ _ _ _ _ _ _ _ _ | show CW _ _ _ _ _ _ _ _ _ _ _ _ | (rintro _ _ ⟨rfl, rfl⟩; (try refine And.intro rfl ?_))); (try (conv => arg -1; simp (disch := omega) only [NSX, Nat.reduceBEq, Nat.reduceAdd, Nat.reduceMul, Int.reduceToNat, Nat.reduceSub, TY, slx, take16, drop16, dz, nums_length, hl, hS1, take16, q8, q16, q32, q64])))))
      | ((first | refine AWL.guard2 rfl rfl rfl rfl rfl rfl ?_ ?_ | refine CW.guard2 rfl rfl rfl rfl rfl rfl rfl rfl ?_ ?_) <;> (intro hc; (try simp only [Bool.not_true, Bool.not_false] at hc); first | (cases hc; done) | ((try simp only [hc]); (try simp only [beq_iff_eq, bne_iff_ne, decide_eq_true_eq, decide_eq_false_iff_not, beq_eq_false_iff_ne, bne_eq_false_iff_eq, ne_eq, Bool.not_eq_true, Bool.not_eq_false, Bool.not_eq_eq_eq_not, Bool.not_true, Bool.not_false, Decidable.not_not, Int.not_lt, Int.not_le] at hc); (try (exfalso; omega)); (try (guard_hyp hc : True; clear hc)))))
      | (refine AWL.guard2 rfl rfl rfl rfl rfl rfl (fun hc => ?_) ?_; (cases hc; done))
      | ((first | ((show AW _ (.region _ _ true) _ _); refine AW.calm false [] [] hmix (by (repeat' (first | exact panOk_end | exact panOk_endM | refine panOk_then ?_ | refine panOk_block ?_ | refine QEq.pan (by assumption) ?_))) ?_ rfl ?_; (focus (as_aux_lemma => kernel_rfl))) | refine AWL.guardU rfl rfl rfl rfl rfl rfl ?_ | refine CW.guardU rfl rfl rfl rfl rfl rfl rfl rfl ?_); (try (conv => arg -1; simp (disch := omega) only [NSX, Nat.reduceBEq, Nat.reduceAdd, Nat.reduceMul, Int.reduceToNat, Nat.reduceSub, TY, slx, take16, drop16, dz, nums_length, hl, hS1, take16, q8, q16, q32, q64])))
      | refine CW.tail rfl ?_
      | (refine AW.cond rfl (fun hc => ?_) (fun hc => ?_) <;> first | (cases hc; done) | ((try simp only [beq_iff_eq, bne_iff_ne, decide_eq_true_eq, decide_eq_false_iff_not, beq_eq_false_iff_ne, bne_eq_false_iff_eq, ne_eq, Bool.not_eq_true, Bool.not_eq_false, Bool.not_eq_eq_eq_not, Bool.not_true, Bool.not_false, Decidable.not_not, Int.not_lt, Int.not_le] at hc); (try (exfalso; omega)); (try (guard_hyp hc : True; clear hc))))
      | ((refine EndQ.mk rfl rfl rfl ?_ ?_ ?_; (focus (first | exact Or.inl rfl | exact Or.inr rfl))) <;> (try simp (disch := omega) only [NSX, Nat.reduceBEq, Nat.reduceAdd, Nat.reduceMul, Int.reduceToNat, Nat.reduceSub, TY, slx, take16, drop16, dz, nums_length, hl, hS1, take16, q8, q16, q32, q64]))
      | (focus ((first | exact trivial | omega | (refine And.intro (by kernel_rfl) (And.intro ⟨_, (by first | exact nums_ints _ _ | rfl), (by first | exact nums_ints _ _ | rfl)⟩ (And.intro ?_ ?_)) <;> (first | rfl | assumption | (simp only [nums_length]; omega) | omega)) | (refine And.intro ?_ (And.intro ?_ ?_); (focus kernel_rfl); (focus kernel_rfl); (focus kernel_rfl)) | ((show newKs _ _ _ = true); kernel_rfl) | ((show FitV _ _ _ _ _ _); (repeat' (first | exact trivial | exact Or.inr (Or.inl rfl) | exact Or.inl rfl | exact Or.inr (Or.inr rfl) | refine And.intro ?_ ?_)); done) | assumption | ((first | refine ld_nums i3 _ _ ?_ | refine ld_nums i22 _ _ ?_ | refine ld_nums i5 _ _ ?_ | refine at_nums i3 _ _ ?_ | refine at_nums i22 _ _ ?_ | refine at_nums i5 _ _ ?_); first | assumption | omega | (simp only [List.length_append]; omega)) | (show _ ≤ _; omega) | (simp only [List.length_take, List.length_drop, List.length_append, List.length_cons, List.length_nil]; omega) | ((repeat' (first | exact trivial | exact rfl | exact Nat.le_of_ble_eq_true rfl | refine And.intro ?_ ?_ | fail)); done) | ((try simp (disch := omega) only [NSX, Nat.reduceBEq, Nat.reduceAdd, Nat.reduceMul, Int.reduceToNat, Nat.reduceSub, TY, slx, take16, drop16, dz, nums_length, hl, hS1, take16, q8, q16, q32, q64]); (repeat' (first | exact trivial | exact rfl | exact ⟨_, _, rfl⟩ | exact ⟨_, rfl⟩ | exact Nat.le_of_ble_eq_true rfl | exact Nat.zero_lt_succ _ | omega | (simp only [nums_length, toB_len] at *; omega) | refine And.intro ?_ ?_ | fail)); done)); done))
      | fail)
    all_goals first | exact ⟨trivial, trivial⟩ | exact ⟨rfl, trivial⟩ | exact ⟨rfl, rfl⟩ | exact ⟨trivial, rfl⟩ | (exfalso; omega) | trace_state
set_option maxHeartbeats 1600000 in
theorem rrep_64796 (i : Int) (v : List Int) (hl : v.length = 16) (hb : bytes v) (x : Int) (hx0 : 0 ≤ x) (hx1 : x < 2 ^ 64) :
    AC Try.prog 15 [.int .i64 64796, .int .i64 i, .fagg (nums .u8 v), .int .u64 x] (fun r m => r = .tup [.fagg (nums .u8 (reS 64796 i v x).1), .int .i64 (reS 64796 i v x).2] ∧ m = []) := by
  have hf1 : True := trivial
  have hf2 : True := trivial
  have hf3 := find_ok 64796 23 26 28 30 (by omega) (by omega) (by omega) (by omega)
  rw [show findS 64796 23 26 28 30 = 2 from by decide] at hf3
  have hwid : AC Try.prog 28 [.int .i64 2] (fun r m => r = .int .i64 32 ∧ m = []) := width_ok 2 (by decide)
  have hS1 : (set v 32 i x).length = 16 := (set_ok 32 i x hl hb).1
  by_cases hbad : i < 0 ∨ i ≥ 4
  · have he : reS 64796 i v x = (zero16, 1) := by
      unfold reS; rw [show repW 64796 = 32 from by decide, show ((lanes 32 : Nat) : Int) = 4 from by decide, if_pos (by omega)]
    rw [he]
    refine AC.enter Try.func15 rfl (Nat.le_of_ble_eq_true rfl) ?_
    simp only [Try.f15]
    have hchk : True := by simp only [TY, slx, take16, drop16, dz, nums_length, hl, q8, q16, q32, q64]
    repeat' (first
      | (refine AWL.opN (sl := SL) rfl rfl rfl trivial ?_; (try (conv => arg -1; simp (disch := omega) only [NSX, Nat.reduceBEq, Nat.reduceAdd, Nat.reduceMul, Int.reduceToNat, Nat.reduceSub, TY, slx, take16, drop16, dz, nums_length, hl, q8, q16, q32, q64])))
      | (refine AW.seqQ ?_; intro Qn hQn)
      | (refine AW.blockQ ?_; intro Qn hQn)
      | refine AW.region ?_
      | ((first | refine AW.skip ?_ | refine AW.ret ?_ | refine AW.exit ?_ | refine AWL.nil ?_ | refine CW.nil ?_); (repeat (first | refine QEq.mp (by assumption) ?_ | simp only [thenQ, Go.Abs.blockQ, ↓reduceIte, Nat.reduceEqDiff])))
      | refine FW.nil ?_
      | refine FW.pass rfl rfl ?_
      | refine FW.go rfl ?_
      | refine CW.skip rfl rfl ?_
      | refine CW.step rfl rfl rfl rfl rfl ?_
      | ((first
        | (refine AWL.boxF (t := 26) rfl rfl rfl rfl rfl ?_)
        | (refine AWL.allocF (t := 26) rfl rfl rfl rfl rfl rfl ?_)
        | (refine CWr.allocF (t := 26) rfl rfl rfl ?_ ?_)
        | (refine AWL.op (sl := SL) rfl rfl ?_ ?_)
        | (refine FW.float rfl rfl rfl rfl rfl ?_)
        | (refine CWr.op rfl ?_ ?_ ?_)
        | (refine CWr.assign rfl ?_ ?_)
        | (refine CWr.alloc rfl rfl rfl rfl ?_)
        | (refine CWr.build rfl rfl rfl rfl ?_ rfl rfl rfl ?_)
        | (refine AWL.frzA rfl rfl ?_)
        | (refine AWL.callV (f := 27) rfl rfl rfl rfl ?_ (Nat.le_of_ble_eq_true rfl) rfl (hf1) ?_; (focus kernel_rfl))
        | (refine AWL.call (f := 27) rfl rfl rfl ?_ rfl (Nat.le_of_ble_eq_true rfl) rfl (hf1) ?_; (focus kernel_rfl))
        | (refine CWr.call (f := 27) rfl ?_ rfl (hf1) (fun _ _ h => h) ?_ ?_ ?_; (focus kernel_rfl))
        | (refine AWL.callV (f := 27) rfl rfl rfl rfl ?_ (Nat.le_of_ble_eq_true rfl) rfl (hf2) ?_; (focus kernel_rfl))
        | (refine AWL.call (f := 27) rfl rfl rfl ?_ rfl (Nat.le_of_ble_eq_true rfl) rfl (hf2) ?_; (focus kernel_rfl))
        | (refine CWr.call (f := 27) rfl ?_ rfl (hf2) (fun _ _ h => h) ?_ ?_ ?_; (focus kernel_rfl))
        | (refine AWL.callV (f := 27) rfl rfl rfl rfl ?_ (Nat.le_of_ble_eq_true rfl) rfl (hf3) ?_; (focus kernel_rfl))
        | (refine AWL.call (f := 27) rfl rfl rfl ?_ rfl (Nat.le_of_ble_eq_true rfl) rfl (hf3) ?_; (focus kernel_rfl))
        | (refine CWr.call (f := 27) rfl ?_ rfl (hf3) (fun _ _ h => h) ?_ ?_ ?_; (focus kernel_rfl))
        | (refine AWL.callV (f := 28) rfl rfl rfl rfl ?_ (Nat.le_of_ble_eq_true rfl) rfl (hwid) ?_; (focus kernel_rfl))
        | (refine AWL.call (f := 28) rfl rfl rfl ?_ rfl (Nat.le_of_ble_eq_true rfl) rfl (hwid) ?_; (focus kernel_rfl))
        | (refine CWr.call (f := 28) rfl ?_ rfl (hwid) (fun _ _ h => h) ?_ ?_ ?_; (focus kernel_rfl))
        | (refine AWL.callV (f := 30) rfl rfl rfl rfl ?_ (Nat.le_of_ble_eq_true rfl) rfl (rsigned_ok _ hl hb _ _) ?_; (focus kernel_rfl))
        | (refine AWL.call (f := 30) rfl rfl rfl ?_ rfl (Nat.le_of_ble_eq_true rfl) rfl (rsigned_ok _ hl hb _ _) ?_; (focus kernel_rfl))
        | (refine CWr.call (f := 30) rfl ?_ rfl (rsigned_ok _ hl hb _ _) (fun _ _ h => h) ?_ ?_ ?_; (focus kernel_rfl))
        | (refine AWL.callV (f := 31) rfl rfl rfl rfl ?_ (Nat.le_of_ble_eq_true rfl) rfl (rget_ok _ hl hb _ _) ?_; (focus kernel_rfl))
        | (refine AWL.call (f := 31) rfl rfl rfl ?_ rfl (Nat.le_of_ble_eq_true rfl) rfl (rget_ok _ hl hb _ _) ?_; (focus kernel_rfl))
        | (refine CWr.call (f := 31) rfl ?_ rfl (rget_ok _ hl hb _ _) (fun _ _ h => h) ?_ ?_ ?_; (focus kernel_rfl))
        | (refine AWL.callV (f := 32) rfl rfl rfl rfl ?_ (Nat.le_of_ble_eq_true rfl) rfl (rset_ok _ hl hb _ _ _ hx0 hx1) ?_; (focus kernel_rfl))
        | (refine AWL.call (f := 32) rfl rfl rfl ?_ rfl (Nat.le_of_ble_eq_true rfl) rfl (rset_ok _ hl hb _ _ _ hx0 hx1) ?_; (focus kernel_rfl))
        | (refine CWr.call (f := 32) rfl ?_ rfl (rset_ok _ hl hb _ _ _ hx0 hx1) (fun _ _ h => h) ?_ ?_ ?_; (focus kernel_rfl))
        | fail) <;> (try ((first | show AWL _ _ _ _ _ | show AW _ _ _ _ | show FW _ _ _ _ _ _ _ _ _ _ | show CW _ _ _ _ _ _ _ _ _ _ _ _ | (rintro _ _ ⟨rfl, rfl⟩; (try refine And.intro rfl ?_))); (try (conv => arg -1; simp (disch := omega) only [NSX, Nat.reduceBEq, Nat.reduceAdd, Nat.reduceMul, Int.reduceToNat, Nat.reduceSub, TY, slx, take16, drop16, dz, nums_length, hl, q8, q16, q32, q64])))))
      | ((first | refine AWL.guard2 rfl rfl rfl rfl rfl rfl ?_ ?_ | refine CW.guard2 rfl rfl rfl rfl rfl rfl rfl rfl ?_ ?_) <;> (intro hc; (try simp only [Bool.not_true, Bool.not_false] at hc); first | (cases hc; done) | ((try simp only [hc]); (try simp only [beq_iff_eq, bne_iff_ne, decide_eq_true_eq, decide_eq_false_iff_not, beq_eq_false_iff_ne, bne_eq_false_iff_eq, ne_eq, Bool.not_eq_true, Bool.not_eq_false, Bool.not_eq_eq_eq_not, Bool.not_true, Bool.not_false, Decidable.not_not, Int.not_lt, Int.not_le] at hc); (try (exfalso; omega)); (try (guard_hyp hc : True; clear hc)))))
      | (refine AWL.guard2 rfl rfl rfl rfl rfl rfl (fun hc => ?_) ?_; (cases hc; done))
      | ((first | ((show AW _ (.region _ _ true) _ _); refine AW.calm false [] [] hmix (by (repeat' (first | exact panOk_end | exact panOk_endM | refine panOk_then ?_ | refine panOk_block ?_ | refine QEq.pan (by assumption) ?_))) ?_ rfl ?_; (focus (as_aux_lemma => kernel_rfl))) | refine AWL.guardU rfl rfl rfl rfl rfl rfl ?_ | refine CW.guardU rfl rfl rfl rfl rfl rfl rfl rfl ?_); (try (conv => arg -1; simp (disch := omega) only [NSX, Nat.reduceBEq, Nat.reduceAdd, Nat.reduceMul, Int.reduceToNat, Nat.reduceSub, TY, slx, take16, drop16, dz, nums_length, hl, q8, q16, q32, q64])))
      | refine CW.tail rfl ?_
      | (refine AW.cond rfl (fun hc => ?_) (fun hc => ?_) <;> first | (cases hc; done) | ((try simp only [beq_iff_eq, bne_iff_ne, decide_eq_true_eq, decide_eq_false_iff_not, beq_eq_false_iff_ne, bne_eq_false_iff_eq, ne_eq, Bool.not_eq_true, Bool.not_eq_false, Bool.not_eq_eq_eq_not, Bool.not_true, Bool.not_false, Decidable.not_not, Int.not_lt, Int.not_le] at hc); (try (exfalso; omega)); (try (guard_hyp hc : True; clear hc))))
      | ((refine EndQ.mk rfl rfl rfl ?_ ?_ ?_; (focus (first | exact Or.inl rfl | exact Or.inr rfl))) <;> (try simp (disch := omega) only [NSX, Nat.reduceBEq, Nat.reduceAdd, Nat.reduceMul, Int.reduceToNat, Nat.reduceSub, TY, slx, take16, drop16, dz, nums_length, hl, q8, q16, q32, q64]))
      | (focus ((first | exact trivial | omega | (refine And.intro (by kernel_rfl) (And.intro ⟨_, (by first | exact nums_ints _ _ | rfl), (by first | exact nums_ints _ _ | rfl)⟩ (And.intro ?_ ?_)) <;> (first | rfl | assumption | (simp only [nums_length]; omega) | omega)) | (refine And.intro ?_ (And.intro ?_ ?_); (focus kernel_rfl); (focus kernel_rfl); (focus kernel_rfl)) | ((show newKs _ _ _ = true); kernel_rfl) | ((show FitV _ _ _ _ _ _); (repeat' (first | exact trivial | exact Or.inr (Or.inl rfl) | exact Or.inl rfl | exact Or.inr (Or.inr rfl) | refine And.intro ?_ ?_)); done) | assumption | ((first | refine ld_nums i3 _ _ ?_ | refine ld_nums i22 _ _ ?_ | refine ld_nums i5 _ _ ?_ | refine at_nums i3 _ _ ?_ | refine at_nums i22 _ _ ?_ | refine at_nums i5 _ _ ?_); first | assumption | omega | (simp only [List.length_append]; omega)) | (show _ ≤ _; omega) | (simp only [List.length_take, List.length_drop, List.length_append, List.length_cons, List.length_nil]; omega) | ((repeat' (first | exact trivial | exact rfl | exact Nat.le_of_ble_eq_true rfl | refine And.intro ?_ ?_ | fail)); done) | ((try simp (disch := omega) only [NSX, Nat.reduceBEq, Nat.reduceAdd, Nat.reduceMul, Int.reduceToNat, Nat.reduceSub, TY, slx, take16, drop16, dz, nums_length, hl, q8, q16, q32, q64]); (repeat' (first | exact trivial | exact rfl | exact ⟨_, _, rfl⟩ | exact ⟨_, rfl⟩ | exact Nat.le_of_ble_eq_true rfl | exact Nat.zero_lt_succ _ | omega | (simp only [nums_length, toB_len] at *; omega) | refine And.intro ?_ ?_ | fail)); done)); done))
      | fail)
    all_goals first | exact ⟨trivial, trivial⟩ | exact ⟨rfl, trivial⟩ | exact ⟨rfl, rfl⟩ | exact ⟨trivial, rfl⟩ | (exfalso; omega) | trace_state
  · have he : reS 64796 i v x = (set v 32 i x, 0) := by
      unfold reS; rw [show repW 64796 = 32 from by decide, show ((lanes 32 : Nat) : Int) = 4 from by decide, if_neg (by omega)]
    rw [he]
    refine AC.enter Try.func15 rfl (Nat.le_of_ble_eq_true rfl) ?_
    simp only [Try.f15]
    have hchk : True := by simp only [TY, slx, take16, drop16, dz, nums_length, hl, hS1, take16, q8, q16, q32, q64]
    repeat' (first
      | (refine AWL.opN (sl := SL) rfl rfl rfl trivial ?_; (try (conv => arg -1; simp (disch := omega) only [NSX, Nat.reduceBEq, Nat.reduceAdd, Nat.reduceMul, Int.reduceToNat, Nat.reduceSub, TY, slx, take16, drop16, dz, nums_length, hl, hS1, take16, q8, q16, q32, q64])))
      | (refine AW.seqQ ?_; intro Qn hQn)
      | (refine AW.blockQ ?_; intro Qn hQn)
      | refine AW.region ?_
      | ((first | refine AW.skip ?_ | refine AW.ret ?_ | refine AW.exit ?_ | refine AWL.nil ?_ | refine CW.nil ?_); (repeat (first | refine QEq.mp (by assumption) ?_ | simp only [thenQ, Go.Abs.blockQ, ↓reduceIte, Nat.reduceEqDiff])))
      | refine FW.nil ?_
      | refine FW.pass rfl rfl ?_
      | refine FW.go rfl ?_
      | refine CW.skip rfl rfl ?_
      | refine CW.step rfl rfl rfl rfl rfl ?_
      | ((first
        | (refine AWL.boxF (t := 26) rfl rfl rfl rfl rfl ?_)
        | (refine AWL.allocF (t := 26) rfl rfl rfl rfl rfl rfl ?_)
        | (refine CWr.allocF (t := 26) rfl rfl rfl ?_ ?_)
        | (refine AWL.op (sl := SL) rfl rfl ?_ ?_)
        | (refine FW.float rfl rfl rfl rfl rfl ?_)
        | (refine CWr.op rfl ?_ ?_ ?_)
        | (refine CWr.assign rfl ?_ ?_)
        | (refine CWr.alloc rfl rfl rfl rfl ?_)
        | (refine CWr.build rfl rfl rfl rfl ?_ rfl rfl rfl ?_)
        | (refine AWL.frzA rfl rfl ?_)
        | (refine AWL.callV (f := 27) rfl rfl rfl rfl ?_ (Nat.le_of_ble_eq_true rfl) rfl (hf1) ?_; (focus kernel_rfl))
        | (refine AWL.call (f := 27) rfl rfl rfl ?_ rfl (Nat.le_of_ble_eq_true rfl) rfl (hf1) ?_; (focus kernel_rfl))
        | (refine CWr.call (f := 27) rfl ?_ rfl (hf1) (fun _ _ h => h) ?_ ?_ ?_; (focus kernel_rfl))
        | (refine AWL.callV (f := 27) rfl rfl rfl rfl ?_ (Nat.le_of_ble_eq_true rfl) rfl (hf2) ?_; (focus kernel_rfl))
        | (refine AWL.call (f := 27) rfl rfl rfl ?_ rfl (Nat.le_of_ble_eq_true rfl) rfl (hf2) ?_; (focus kernel_rfl))
        | (refine CWr.call (f := 27) rfl ?_ rfl (hf2) (fun _ _ h => h) ?_ ?_ ?_; (focus kernel_rfl))
        | (refine AWL.callV (f := 27) rfl rfl rfl rfl ?_ (Nat.le_of_ble_eq_true rfl) rfl (hf3) ?_; (focus kernel_rfl))
        | (refine AWL.call (f := 27) rfl rfl rfl ?_ rfl (Nat.le_of_ble_eq_true rfl) rfl (hf3) ?_; (focus kernel_rfl))
        | (refine CWr.call (f := 27) rfl ?_ rfl (hf3) (fun _ _ h => h) ?_ ?_ ?_; (focus kernel_rfl))
        | (refine AWL.callV (f := 28) rfl rfl rfl rfl ?_ (Nat.le_of_ble_eq_true rfl) rfl (hwid) ?_; (focus kernel_rfl))
        | (refine AWL.call (f := 28) rfl rfl rfl ?_ rfl (Nat.le_of_ble_eq_true rfl) rfl (hwid) ?_; (focus kernel_rfl))
        | (refine CWr.call (f := 28) rfl ?_ rfl (hwid) (fun _ _ h => h) ?_ ?_ ?_; (focus kernel_rfl))
        | (refine AWL.callV (f := 30) rfl rfl rfl rfl ?_ (Nat.le_of_ble_eq_true rfl) rfl (rsigned_ok _ hl hb _ _) ?_; (focus kernel_rfl))
        | (refine AWL.call (f := 30) rfl rfl rfl ?_ rfl (Nat.le_of_ble_eq_true rfl) rfl (rsigned_ok _ hl hb _ _) ?_; (focus kernel_rfl))
        | (refine CWr.call (f := 30) rfl ?_ rfl (rsigned_ok _ hl hb _ _) (fun _ _ h => h) ?_ ?_ ?_; (focus kernel_rfl))
        | (refine AWL.callV (f := 31) rfl rfl rfl rfl ?_ (Nat.le_of_ble_eq_true rfl) rfl (rget_ok _ hl hb _ _) ?_; (focus kernel_rfl))
        | (refine AWL.call (f := 31) rfl rfl rfl ?_ rfl (Nat.le_of_ble_eq_true rfl) rfl (rget_ok _ hl hb _ _) ?_; (focus kernel_rfl))
        | (refine CWr.call (f := 31) rfl ?_ rfl (rget_ok _ hl hb _ _) (fun _ _ h => h) ?_ ?_ ?_; (focus kernel_rfl))
        | (refine AWL.callV (f := 32) rfl rfl rfl rfl ?_ (Nat.le_of_ble_eq_true rfl) rfl (rset_ok _ hl hb _ _ _ hx0 hx1) ?_; (focus kernel_rfl))
        | (refine AWL.call (f := 32) rfl rfl rfl ?_ rfl (Nat.le_of_ble_eq_true rfl) rfl (rset_ok _ hl hb _ _ _ hx0 hx1) ?_; (focus kernel_rfl))
        | (refine CWr.call (f := 32) rfl ?_ rfl (rset_ok _ hl hb _ _ _ hx0 hx1) (fun _ _ h => h) ?_ ?_ ?_; (focus kernel_rfl))
        | fail) <;> (try ((first | show AWL _ _ _ _ _ | show AW _ _ _ _ | show FW _ _ _ _ _ _ _ _ _ _ | show CW _ _ _ _ _ _ _ _ _ _ _ _ | (rintro _ _ ⟨rfl, rfl⟩; (try refine And.intro rfl ?_))); (try (conv => arg -1; simp (disch := omega) only [NSX, Nat.reduceBEq, Nat.reduceAdd, Nat.reduceMul, Int.reduceToNat, Nat.reduceSub, TY, slx, take16, drop16, dz, nums_length, hl, hS1, take16, q8, q16, q32, q64])))))
      | ((first | refine AWL.guard2 rfl rfl rfl rfl rfl rfl ?_ ?_ | refine CW.guard2 rfl rfl rfl rfl rfl rfl rfl rfl ?_ ?_) <;> (intro hc; (try simp only [Bool.not_true, Bool.not_false] at hc); first | (cases hc; done) | ((try simp only [hc]); (try simp only [beq_iff_eq, bne_iff_ne, decide_eq_true_eq, decide_eq_false_iff_not, beq_eq_false_iff_ne, bne_eq_false_iff_eq, ne_eq, Bool.not_eq_true, Bool.not_eq_false, Bool.not_eq_eq_eq_not, Bool.not_true, Bool.not_false, Decidable.not_not, Int.not_lt, Int.not_le] at hc); (try (exfalso; omega)); (try (guard_hyp hc : True; clear hc)))))
      | (refine AWL.guard2 rfl rfl rfl rfl rfl rfl (fun hc => ?_) ?_; (cases hc; done))
      | ((first | ((show AW _ (.region _ _ true) _ _); refine AW.calm false [] [] hmix (by (repeat' (first | exact panOk_end | exact panOk_endM | refine panOk_then ?_ | refine panOk_block ?_ | refine QEq.pan (by assumption) ?_))) ?_ rfl ?_; (focus (as_aux_lemma => kernel_rfl))) | refine AWL.guardU rfl rfl rfl rfl rfl rfl ?_ | refine CW.guardU rfl rfl rfl rfl rfl rfl rfl rfl ?_); (try (conv => arg -1; simp (disch := omega) only [NSX, Nat.reduceBEq, Nat.reduceAdd, Nat.reduceMul, Int.reduceToNat, Nat.reduceSub, TY, slx, take16, drop16, dz, nums_length, hl, hS1, take16, q8, q16, q32, q64])))
      | refine CW.tail rfl ?_
      | (refine AW.cond rfl (fun hc => ?_) (fun hc => ?_) <;> first | (cases hc; done) | ((try simp only [beq_iff_eq, bne_iff_ne, decide_eq_true_eq, decide_eq_false_iff_not, beq_eq_false_iff_ne, bne_eq_false_iff_eq, ne_eq, Bool.not_eq_true, Bool.not_eq_false, Bool.not_eq_eq_eq_not, Bool.not_true, Bool.not_false, Decidable.not_not, Int.not_lt, Int.not_le] at hc); (try (exfalso; omega)); (try (guard_hyp hc : True; clear hc))))
      | ((refine EndQ.mk rfl rfl rfl ?_ ?_ ?_; (focus (first | exact Or.inl rfl | exact Or.inr rfl))) <;> (try simp (disch := omega) only [NSX, Nat.reduceBEq, Nat.reduceAdd, Nat.reduceMul, Int.reduceToNat, Nat.reduceSub, TY, slx, take16, drop16, dz, nums_length, hl, hS1, take16, q8, q16, q32, q64]))
      | (focus ((first | exact trivial | omega | (refine And.intro (by kernel_rfl) (And.intro ⟨_, (by first | exact nums_ints _ _ | rfl), (by first | exact nums_ints _ _ | rfl)⟩ (And.intro ?_ ?_)) <;> (first | rfl | assumption | (simp only [nums_length]; omega) | omega)) | (refine And.intro ?_ (And.intro ?_ ?_); (focus kernel_rfl); (focus kernel_rfl); (focus kernel_rfl)) | ((show newKs _ _ _ = true); kernel_rfl) | ((show FitV _ _ _ _ _ _); (repeat' (first | exact trivial | exact Or.inr (Or.inl rfl) | exact Or.inl rfl | exact Or.inr (Or.inr rfl) | refine And.intro ?_ ?_)); done) | assumption | ((first | refine ld_nums i3 _ _ ?_ | refine ld_nums i22 _ _ ?_ | refine ld_nums i5 _ _ ?_ | refine at_nums i3 _ _ ?_ | refine at_nums i22 _ _ ?_ | refine at_nums i5 _ _ ?_); first | assumption | omega | (simp only [List.length_append]; omega)) | (show _ ≤ _; omega) | (simp only [List.length_take, List.length_drop, List.length_append, List.length_cons, List.length_nil]; omega) | ((repeat' (first | exact trivial | exact rfl | exact Nat.le_of_ble_eq_true rfl | refine And.intro ?_ ?_ | fail)); done) | ((try simp (disch := omega) only [NSX, Nat.reduceBEq, Nat.reduceAdd, Nat.reduceMul, Int.reduceToNat, Nat.reduceSub, TY, slx, take16, drop16, dz, nums_length, hl, hS1, take16, q8, q16, q32, q64]); (repeat' (first | exact trivial | exact rfl | exact ⟨_, _, rfl⟩ | exact ⟨_, rfl⟩ | exact Nat.le_of_ble_eq_true rfl | exact Nat.zero_lt_succ _ | omega | (simp only [nums_length, toB_len] at *; omega) | refine And.intro ?_ ?_ | fail)); done)); done))
      | fail)
    all_goals first | exact ⟨trivial, trivial⟩ | exact ⟨rfl, trivial⟩ | exact ⟨rfl, rfl⟩ | exact ⟨trivial, rfl⟩ | (exfalso; omega) | trace_state
set_option maxHeartbeats 1600000 in
theorem rrep_64798 (i : Int) (v : List Int) (hl : v.length = 16) (hb : bytes v) (x : Int) (hx0 : 0 ≤ x) (hx1 : x < 2 ^ 64) :
    AC Try.prog 15 [.int .i64 64798, .int .i64 i, .fagg (nums .u8 v), .int .u64 x] (fun r m => r = .tup [.fagg (nums .u8 (reS 64798 i v x).1), .int .i64 (reS 64798 i v x).2] ∧ m = []) := by
  have hf1 : True := trivial
  have hf2 : True := trivial
  have hf3 := find_ok 64798 23 26 28 30 (by omega) (by omega) (by omega) (by omega)
  rw [show findS 64798 23 26 28 30 = 3 from by decide] at hf3
  have hwid : AC Try.prog 28 [.int .i64 3] (fun r m => r = .int .i64 64 ∧ m = []) := width_ok 3 (by decide)
  have hS1 : (set v 64 i x).length = 16 := (set_ok 64 i x hl hb).1
  by_cases hbad : i < 0 ∨ i ≥ 2
  · have he : reS 64798 i v x = (zero16, 1) := by
      unfold reS; rw [show repW 64798 = 64 from by decide, show ((lanes 64 : Nat) : Int) = 2 from by decide, if_pos (by omega)]
    rw [he]
    refine AC.enter Try.func15 rfl (Nat.le_of_ble_eq_true rfl) ?_
    simp only [Try.f15]
    have hchk : True := by simp only [TY, slx, take16, drop16, dz, nums_length, hl, q8, q16, q32, q64]
    repeat' (first
      | (refine AWL.opN (sl := SL) rfl rfl rfl trivial ?_; (try (conv => arg -1; simp (disch := omega) only [NSX, Nat.reduceBEq, Nat.reduceAdd, Nat.reduceMul, Int.reduceToNat, Nat.reduceSub, TY, slx, take16, drop16, dz, nums_length, hl, q8, q16, q32, q64])))
      | (refine AW.seqQ ?_; intro Qn hQn)
      | (refine AW.blockQ ?_; intro Qn hQn)
      | refine AW.region ?_
      | ((first | refine AW.skip ?_ | refine AW.ret ?_ | refine AW.exit ?_ | refine AWL.nil ?_ | refine CW.nil ?_); (repeat (first | refine QEq.mp (by assumption) ?_ | simp only [thenQ, Go.Abs.blockQ, ↓reduceIte, Nat.reduceEqDiff])))
      | refine FW.nil ?_
      | refine FW.pass rfl rfl ?_
      | refine FW.go rfl ?_
      | refine CW.skip rfl rfl ?_
      | refine CW.step rfl rfl rfl rfl rfl ?_
      | ((first
        | (refine AWL.boxF (t := 26) rfl rfl rfl rfl rfl ?_)
        | (refine AWL.allocF (t := 26) rfl rfl rfl rfl rfl rfl ?_)
        | (refine CWr.allocF (t := 26) rfl rfl rfl ?_ ?_)
        | (refine AWL.op (sl := SL) rfl rfl ?_ ?_)
        | (refine FW.float rfl rfl rfl rfl rfl ?_)
        | (refine CWr.op rfl ?_ ?_ ?_)
        | (refine CWr.assign rfl ?_ ?_)
        | (refine CWr.alloc rfl rfl rfl rfl ?_)
        | (refine CWr.build rfl rfl rfl rfl ?_ rfl rfl rfl ?_)
        | (refine AWL.frzA rfl rfl ?_)
        | (refine AWL.callV (f := 27) rfl rfl rfl rfl ?_ (Nat.le_of_ble_eq_true rfl) rfl (hf1) ?_; (focus kernel_rfl))
        | (refine AWL.call (f := 27) rfl rfl rfl ?_ rfl (Nat.le_of_ble_eq_true rfl) rfl (hf1) ?_; (focus kernel_rfl))
        | (refine CWr.call (f := 27) rfl ?_ rfl (hf1) (fun _ _ h => h) ?_ ?_ ?_; (focus kernel_rfl))
        | (refine AWL.callV (f := 27) rfl rfl rfl rfl ?_ (Nat.le_of_ble_eq_true rfl) rfl (hf2) ?_; (focus kernel_rfl))
        | (refine AWL.call (f := 27) rfl rfl rfl ?_ rfl (Nat.le_of_ble_eq_true rfl) rfl (hf2) ?_; (focus kernel_rfl))
        | (refine CWr.call (f := 27) rfl ?_ rfl (hf2) (fun _ _ h => h) ?_ ?_ ?_; (focus kernel_rfl))
        | (refine AWL.callV (f := 27) rfl rfl rfl rfl ?_ (Nat.le_of_ble_eq_true rfl) rfl (hf3) ?_; (focus kernel_rfl))
        | (refine AWL.call (f := 27) rfl rfl rfl ?_ rfl (Nat.le_of_ble_eq_true rfl) rfl (hf3) ?_; (focus kernel_rfl))
        | (refine CWr.call (f := 27) rfl ?_ rfl (hf3) (fun _ _ h => h) ?_ ?_ ?_; (focus kernel_rfl))
        | (refine AWL.callV (f := 28) rfl rfl rfl rfl ?_ (Nat.le_of_ble_eq_true rfl) rfl (hwid) ?_; (focus kernel_rfl))
        | (refine AWL.call (f := 28) rfl rfl rfl ?_ rfl (Nat.le_of_ble_eq_true rfl) rfl (hwid) ?_; (focus kernel_rfl))
        | (refine CWr.call (f := 28) rfl ?_ rfl (hwid) (fun _ _ h => h) ?_ ?_ ?_; (focus kernel_rfl))
        | (refine AWL.callV (f := 30) rfl rfl rfl rfl ?_ (Nat.le_of_ble_eq_true rfl) rfl (rsigned_ok _ hl hb _ _) ?_; (focus kernel_rfl))
        | (refine AWL.call (f := 30) rfl rfl rfl ?_ rfl (Nat.le_of_ble_eq_true rfl) rfl (rsigned_ok _ hl hb _ _) ?_; (focus kernel_rfl))
        | (refine CWr.call (f := 30) rfl ?_ rfl (rsigned_ok _ hl hb _ _) (fun _ _ h => h) ?_ ?_ ?_; (focus kernel_rfl))
        | (refine AWL.callV (f := 31) rfl rfl rfl rfl ?_ (Nat.le_of_ble_eq_true rfl) rfl (rget_ok _ hl hb _ _) ?_; (focus kernel_rfl))
        | (refine AWL.call (f := 31) rfl rfl rfl ?_ rfl (Nat.le_of_ble_eq_true rfl) rfl (rget_ok _ hl hb _ _) ?_; (focus kernel_rfl))
        | (refine CWr.call (f := 31) rfl ?_ rfl (rget_ok _ hl hb _ _) (fun _ _ h => h) ?_ ?_ ?_; (focus kernel_rfl))
        | (refine AWL.callV (f := 32) rfl rfl rfl rfl ?_ (Nat.le_of_ble_eq_true rfl) rfl (rset_ok _ hl hb _ _ _ hx0 hx1) ?_; (focus kernel_rfl))
        | (refine AWL.call (f := 32) rfl rfl rfl ?_ rfl (Nat.le_of_ble_eq_true rfl) rfl (rset_ok _ hl hb _ _ _ hx0 hx1) ?_; (focus kernel_rfl))
        | (refine CWr.call (f := 32) rfl ?_ rfl (rset_ok _ hl hb _ _ _ hx0 hx1) (fun _ _ h => h) ?_ ?_ ?_; (focus kernel_rfl))
        | fail) <;> (try ((first | show AWL _ _ _ _ _ | show AW _ _ _ _ | show FW _ _ _ _ _ _ _ _ _ _ | show CW _ _ _ _ _ _ _ _ _ _ _ _ | (rintro _ _ ⟨rfl, rfl⟩; (try refine And.intro rfl ?_))); (try (conv => arg -1; simp (disch := omega) only [NSX, Nat.reduceBEq, Nat.reduceAdd, Nat.reduceMul, Int.reduceToNat, Nat.reduceSub, TY, slx, take16, drop16, dz, nums_length, hl, q8, q16, q32, q64])))))
      | ((first | refine AWL.guard2 rfl rfl rfl rfl rfl rfl ?_ ?_ | refine CW.guard2 rfl rfl rfl rfl rfl rfl rfl rfl ?_ ?_) <;> (intro hc; (try simp only [Bool.not_true, Bool.not_false] at hc); first | (cases hc; done) | ((try simp only [hc]); (try simp only [beq_iff_eq, bne_iff_ne, decide_eq_true_eq, decide_eq_false_iff_not, beq_eq_false_iff_ne, bne_eq_false_iff_eq, ne_eq, Bool.not_eq_true, Bool.not_eq_false, Bool.not_eq_eq_eq_not, Bool.not_true, Bool.not_false, Decidable.not_not, Int.not_lt, Int.not_le] at hc); (try (exfalso; omega)); (try (guard_hyp hc : True; clear hc)))))
      | (refine AWL.guard2 rfl rfl rfl rfl rfl rfl (fun hc => ?_) ?_; (cases hc; done))
      | ((first | ((show AW _ (.region _ _ true) _ _); refine AW.calm false [] [] hmix (by (repeat' (first | exact panOk_end | exact panOk_endM | refine panOk_then ?_ | refine panOk_block ?_ | refine QEq.pan (by assumption) ?_))) ?_ rfl ?_; (focus (as_aux_lemma => kernel_rfl))) | refine AWL.guardU rfl rfl rfl rfl rfl rfl ?_ | refine CW.guardU rfl rfl rfl rfl rfl rfl rfl rfl ?_); (try (conv => arg -1; simp (disch := omega) only [NSX, Nat.reduceBEq, Nat.reduceAdd, Nat.reduceMul, Int.reduceToNat, Nat.reduceSub, TY, slx, take16, drop16, dz, nums_length, hl, q8, q16, q32, q64])))
      | refine CW.tail rfl ?_
      | (refine AW.cond rfl (fun hc => ?_) (fun hc => ?_) <;> first | (cases hc; done) | ((try simp only [beq_iff_eq, bne_iff_ne, decide_eq_true_eq, decide_eq_false_iff_not, beq_eq_false_iff_ne, bne_eq_false_iff_eq, ne_eq, Bool.not_eq_true, Bool.not_eq_false, Bool.not_eq_eq_eq_not, Bool.not_true, Bool.not_false, Decidable.not_not, Int.not_lt, Int.not_le] at hc); (try (exfalso; omega)); (try (guard_hyp hc : True; clear hc))))
      | ((refine EndQ.mk rfl rfl rfl ?_ ?_ ?_; (focus (first | exact Or.inl rfl | exact Or.inr rfl))) <;> (try simp (disch := omega) only [NSX, Nat.reduceBEq, Nat.reduceAdd, Nat.reduceMul, Int.reduceToNat, Nat.reduceSub, TY, slx, take16, drop16, dz, nums_length, hl, q8, q16, q32, q64]))
      | (focus ((first | exact trivial | omega | (refine And.intro (by kernel_rfl) (And.intro ⟨_, (by first | exact nums_ints _ _ | rfl), (by first | exact nums_ints _ _ | rfl)⟩ (And.intro ?_ ?_)) <;> (first | rfl | assumption | (simp only [nums_length]; omega) | omega)) | (refine And.intro ?_ (And.intro ?_ ?_); (focus kernel_rfl); (focus kernel_rfl); (focus kernel_rfl)) | ((show newKs _ _ _ = true); kernel_rfl) | ((show FitV _ _ _ _ _ _); (repeat' (first | exact trivial | exact Or.inr (Or.inl rfl) | exact Or.inl rfl | exact Or.inr (Or.inr rfl) | refine And.intro ?_ ?_)); done) | assumption | ((first | refine ld_nums i3 _ _ ?_ | refine ld_nums i22 _ _ ?_ | refine ld_nums i5 _ _ ?_ | refine at_nums i3 _ _ ?_ | refine at_nums i22 _ _ ?_ | refine at_nums i5 _ _ ?_); first | assumption | omega | (simp only [List.length_append]; omega)) | (show _ ≤ _; omega) | (simp only [List.length_take, List.length_drop, List.length_append, List.length_cons, List.length_nil]; omega) | ((repeat' (first | exact trivial | exact rfl | exact Nat.le_of_ble_eq_true rfl | refine And.intro ?_ ?_ | fail)); done) | ((try simp (disch := omega) only [NSX, Nat.reduceBEq, Nat.reduceAdd, Nat.reduceMul, Int.reduceToNat, Nat.reduceSub, TY, slx, take16, drop16, dz, nums_length, hl, q8, q16, q32, q64]); (repeat' (first | exact trivial | exact rfl | exact ⟨_, _, rfl⟩ | exact ⟨_, rfl⟩ | exact Nat.le_of_ble_eq_true rfl | exact Nat.zero_lt_succ _ | omega | (simp only [nums_length, toB_len] at *; omega) | refine And.intro ?_ ?_ | fail)); done)); done))
      | fail)
    all_goals first | exact ⟨trivial, trivial⟩ | exact ⟨rfl, trivial⟩ | exact ⟨rfl, rfl⟩ | exact ⟨trivial, rfl⟩ | (exfalso; omega) | trace_state
  · have he : reS 64798 i v x = (set v 64 i x, 0) := by
      unfold reS; rw [show repW 64798 = 64 from by decide, show ((lanes 64 : Nat) : Int) = 2 from by decide, if_neg (by omega)]
    rw [he]
    refine AC.enter Try.func15 rfl (Nat.le_of_ble_eq_true rfl) ?_
    simp only [Try.f15]
    have hchk : True := by simp only [TY, slx, take16, drop16, dz, nums_length, hl, hS1, take16, q8, q16, q32, q64]
    repeat' (first
      | (refine AWL.opN (sl := SL) rfl rfl rfl trivial ?_; (try (conv => arg -1; simp (disch := omega) only [NSX, Nat.reduceBEq, Nat.reduceAdd, Nat.reduceMul, Int.reduceToNat, Nat.reduceSub, TY, slx, take16, drop16, dz, nums_length, hl, hS1, take16, q8, q16, q32, q64])))
      | (refine AW.seqQ ?_; intro Qn hQn)
      | (refine AW.blockQ ?_; intro Qn hQn)
      | refine AW.region ?_
      | ((first | refine AW.skip ?_ | refine AW.ret ?_ | refine AW.exit ?_ | refine AWL.nil ?_ | refine CW.nil ?_); (repeat (first | refine QEq.mp (by assumption) ?_ | simp only [thenQ, Go.Abs.blockQ, ↓reduceIte, Nat.reduceEqDiff])))
      | refine FW.nil ?_
      | refine FW.pass rfl rfl ?_
      | refine FW.go rfl ?_
      | refine CW.skip rfl rfl ?_
      | refine CW.step rfl rfl rfl rfl rfl ?_
      | ((first
        | (refine AWL.boxF (t := 26) rfl rfl rfl rfl rfl ?_)
        | (refine AWL.allocF (t := 26) rfl rfl rfl rfl rfl rfl ?_)
        | (refine CWr.allocF (t := 26) rfl rfl rfl ?_ ?_)
        | (refine AWL.op (sl := SL) rfl rfl ?_ ?_)
        | (refine FW.float rfl rfl rfl rfl rfl ?_)
        | (refine CWr.op rfl ?_ ?_ ?_)
        | (refine CWr.assign rfl ?_ ?_)
        | (refine CWr.alloc rfl rfl rfl rfl ?_)
        | (refine CWr.build rfl rfl rfl rfl ?_ rfl rfl rfl ?_)
        | (refine AWL.frzA rfl rfl ?_)
        | (refine AWL.callV (f := 27) rfl rfl rfl rfl ?_ (Nat.le_of_ble_eq_true rfl) rfl (hf1) ?_; (focus kernel_rfl))
        | (refine AWL.call (f := 27) rfl rfl rfl ?_ rfl (Nat.le_of_ble_eq_true rfl) rfl (hf1) ?_; (focus kernel_rfl))
        | (refine CWr.call (f := 27) rfl ?_ rfl (hf1) (fun _ _ h => h) ?_ ?_ ?_; (focus kernel_rfl))
        | (refine AWL.callV (f := 27) rfl rfl rfl rfl ?_ (Nat.le_of_ble_eq_true rfl) rfl (hf2) ?_; (focus kernel_rfl))
        | (refine AWL.call (f := 27) rfl rfl rfl ?_ rfl (Nat.le_of_ble_eq_true rfl) rfl (hf2) ?_; (focus kernel_rfl))
        | (refine CWr.call (f := 27) rfl ?_ rfl (hf2) (fun _ _ h => h) ?_ ?_ ?_; (focus kernel_rfl))
        | (refine AWL.callV (f := 27) rfl rfl rfl rfl ?_ (Nat.le_of_ble_eq_true rfl) rfl (hf3) ?_; (focus kernel_rfl))
        | (refine AWL.call (f := 27) rfl rfl rfl ?_ rfl (Nat.le_of_ble_eq_true rfl) rfl (hf3) ?_; (focus kernel_rfl))
        | (refine CWr.call (f := 27) rfl ?_ rfl (hf3) (fun _ _ h => h) ?_ ?_ ?_; (focus kernel_rfl))
        | (refine AWL.callV (f := 28) rfl rfl rfl rfl ?_ (Nat.le_of_ble_eq_true rfl) rfl (hwid) ?_; (focus kernel_rfl))
        | (refine AWL.call (f := 28) rfl rfl rfl ?_ rfl (Nat.le_of_ble_eq_true rfl) rfl (hwid) ?_; (focus kernel_rfl))
        | (refine CWr.call (f := 28) rfl ?_ rfl (hwid) (fun _ _ h => h) ?_ ?_ ?_; (focus kernel_rfl))
        | (refine AWL.callV (f := 30) rfl rfl rfl rfl ?_ (Nat.le_of_ble_eq_true rfl) rfl (rsigned_ok _ hl hb _ _) ?_; (focus kernel_rfl))
        | (refine AWL.call (f := 30) rfl rfl rfl ?_ rfl (Nat.le_of_ble_eq_true rfl) rfl (rsigned_ok _ hl hb _ _) ?_; (focus kernel_rfl))
        | (refine CWr.call (f := 30) rfl ?_ rfl (rsigned_ok _ hl hb _ _) (fun _ _ h => h) ?_ ?_ ?_; (focus kernel_rfl))
        | (refine AWL.callV (f := 31) rfl rfl rfl rfl ?_ (Nat.le_of_ble_eq_true rfl) rfl (rget_ok _ hl hb _ _) ?_; (focus kernel_rfl))
        | (refine AWL.call (f := 31) rfl rfl rfl ?_ rfl (Nat.le_of_ble_eq_true rfl) rfl (rget_ok _ hl hb _ _) ?_; (focus kernel_rfl))
        | (refine CWr.call (f := 31) rfl ?_ rfl (rget_ok _ hl hb _ _) (fun _ _ h => h) ?_ ?_ ?_; (focus kernel_rfl))
        | (refine AWL.callV (f := 32) rfl rfl rfl rfl ?_ (Nat.le_of_ble_eq_true rfl) rfl (rset_ok _ hl hb _ _ _ hx0 hx1) ?_; (focus kernel_rfl))
        | (refine AWL.call (f := 32) rfl rfl rfl ?_ rfl (Nat.le_of_ble_eq_true rfl) rfl (rset_ok _ hl hb _ _ _ hx0 hx1) ?_; (focus kernel_rfl))
        | (refine CWr.call (f := 32) rfl ?_ rfl (rset_ok _ hl hb _ _ _ hx0 hx1) (fun _ _ h => h) ?_ ?_ ?_; (focus kernel_rfl))
        | fail) <;> (try ((first | show AWL _ _ _ _ _ | show AW _ _ _ _ | show FW _ _ _ _ _ _ _ _ _ _ | show CW _ _ _ _ _ _ _ _ _ _ _ _ | (rintro _ _ ⟨rfl, rfl⟩; (try refine And.intro rfl ?_))); (try (conv => arg -1; simp (disch := omega) only [NSX, Nat.reduceBEq, Nat.reduceAdd, Nat.reduceMul, Int.reduceToNat, Nat.reduceSub, TY, slx, take16, drop16, dz, nums_length, hl, hS1, take16, q8, q16, q32, q64])))))
      | ((first | refine AWL.guard2 rfl rfl rfl rfl rfl rfl ?_ ?_ | refine CW.guard2 rfl rfl rfl rfl rfl rfl rfl rfl ?_ ?_) <;> (intro hc; (try simp only [Bool.not_true, Bool.not_false] at hc); first | (cases hc; done) | ((try simp only [hc]); (try simp only [beq_iff_eq, bne_iff_ne, decide_eq_true_eq, decide_eq_false_iff_not, beq_eq_false_iff_ne, bne_eq_false_iff_eq, ne_eq, Bool.not_eq_true, Bool.not_eq_false, Bool.not_eq_eq_eq_not, Bool.not_true, Bool.not_false, Decidable.not_not, Int.not_lt, Int.not_le] at hc); (try (exfalso; omega)); (try (guard_hyp hc : True; clear hc)))))
      | (refine AWL.guard2 rfl rfl rfl rfl rfl rfl (fun hc => ?_) ?_; (cases hc; done))
      | ((first | ((show AW _ (.region _ _ true) _ _); refine AW.calm false [] [] hmix (by (repeat' (first | exact panOk_end | exact panOk_endM | refine panOk_then ?_ | refine panOk_block ?_ | refine QEq.pan (by assumption) ?_))) ?_ rfl ?_; (focus (as_aux_lemma => kernel_rfl))) | refine AWL.guardU rfl rfl rfl rfl rfl rfl ?_ | refine CW.guardU rfl rfl rfl rfl rfl rfl rfl rfl ?_); (try (conv => arg -1; simp (disch := omega) only [NSX, Nat.reduceBEq, Nat.reduceAdd, Nat.reduceMul, Int.reduceToNat, Nat.reduceSub, TY, slx, take16, drop16, dz, nums_length, hl, hS1, take16, q8, q16, q32, q64])))
      | refine CW.tail rfl ?_
      | (refine AW.cond rfl (fun hc => ?_) (fun hc => ?_) <;> first | (cases hc; done) | ((try simp only [beq_iff_eq, bne_iff_ne, decide_eq_true_eq, decide_eq_false_iff_not, beq_eq_false_iff_ne, bne_eq_false_iff_eq, ne_eq, Bool.not_eq_true, Bool.not_eq_false, Bool.not_eq_eq_eq_not, Bool.not_true, Bool.not_false, Decidable.not_not, Int.not_lt, Int.not_le] at hc); (try (exfalso; omega)); (try (guard_hyp hc : True; clear hc))))
      | ((refine EndQ.mk rfl rfl rfl ?_ ?_ ?_; (focus (first | exact Or.inl rfl | exact Or.inr rfl))) <;> (try simp (disch := omega) only [NSX, Nat.reduceBEq, Nat.reduceAdd, Nat.reduceMul, Int.reduceToNat, Nat.reduceSub, TY, slx, take16, drop16, dz, nums_length, hl, hS1, take16, q8, q16, q32, q64]))
      | (focus ((first | exact trivial | omega | (refine And.intro (by kernel_rfl) (And.intro ⟨_, (by first | exact nums_ints _ _ | rfl), (by first | exact nums_ints _ _ | rfl)⟩ (And.intro ?_ ?_)) <;> (first | rfl | assumption | (simp only [nums_length]; omega) | omega)) | (refine And.intro ?_ (And.intro ?_ ?_); (focus kernel_rfl); (focus kernel_rfl); (focus kernel_rfl)) | ((show newKs _ _ _ = true); kernel_rfl) | ((show FitV _ _ _ _ _ _); (repeat' (first | exact trivial | exact Or.inr (Or.inl rfl) | exact Or.inl rfl | exact Or.inr (Or.inr rfl) | refine And.intro ?_ ?_)); done) | assumption | ((first | refine ld_nums i3 _ _ ?_ | refine ld_nums i22 _ _ ?_ | refine ld_nums i5 _ _ ?_ | refine at_nums i3 _ _ ?_ | refine at_nums i22 _ _ ?_ | refine at_nums i5 _ _ ?_); first | assumption | omega | (simp only [List.length_append]; omega)) | (show _ ≤ _; omega) | (simp only [List.length_take, List.length_drop, List.length_append, List.length_cons, List.length_nil]; omega) | ((repeat' (first | exact trivial | exact rfl | exact Nat.le_of_ble_eq_true rfl | refine And.intro ?_ ?_ | fail)); done) | ((try simp (disch := omega) only [NSX, Nat.reduceBEq, Nat.reduceAdd, Nat.reduceMul, Int.reduceToNat, Nat.reduceSub, TY, slx, take16, drop16, dz, nums_length, hl, hS1, take16, q8, q16, q32, q64]); (repeat' (first | exact trivial | exact rfl | exact ⟨_, _, rfl⟩ | exact ⟨_, rfl⟩ | exact Nat.le_of_ble_eq_true rfl | exact Nat.zero_lt_succ _ | omega | (simp only [nums_length, toB_len] at *; omega) | refine And.intro ?_ ?_ | fail)); done)); done))
      | fail)
    all_goals first | exact ⟨trivial, trivial⟩ | exact ⟨rfl, trivial⟩ | exact ⟨rfl, rfl⟩ | exact ⟨trivial, rfl⟩ | (exfalso; omega) | trace_state
set_option maxHeartbeats 1600000 in
theorem rrep_ok (op i : Int) (v : List Int) (hl : v.length = 16) (hb : bytes v) (x : Int) (hx0 : 0 ≤ x) (hx1 : x < 2 ^ 64) :
    AC Try.prog 15 [.int .i64 op, .int .i64 i, .fagg (nums .u8 v), .int .u64 x] (fun r m => r = .tup [.fagg (nums .u8 (reS op i v x).1), .int .i64 (reS op i v x).2] ∧ m = []) := by
  by_cases h64791 : op = 64791
  · subst h64791; exact rrep_64791 i v hl hb x hx0 hx1
  by_cases h64794 : op = 64794
  · subst h64794; exact rrep_64794 i v hl hb x hx0 hx1
  by_cases h64796 : op = 64796
  · subst h64796; exact rrep_64796 i v hl hb x hx0 hx1
  by_cases h64798 : op = 64798
  · subst h64798; exact rrep_64798 i v hl hb x hx0 hx1
  have hf1 : True := trivial
  have hf2 : True := trivial
  have hwid : True := trivial
  have hf3 := find_ok op 23 26 28 30 (by omega) (by omega) (by omega) (by omega)
  rw [show findS op 23 26 28 30 = -1 from by unfold findS; rw [if_neg (by omega), if_neg (by omega), if_neg (by omega), if_neg (by omega)]] at hf3
  have he : reS op i v x = (zero16, 1) := by
    unfold reS; rw [if_pos (.inl (by unfold repW; rw [if_neg (by omega), if_neg (by omega), if_neg (by omega), if_neg (by omega)]))]
  rw [he]
  refine AC.enter Try.func15 rfl (Nat.le_of_ble_eq_true rfl) ?_
  simp only [Try.f15]
  have hchk : True := by simp only [TY, slx, take16, drop16, dz, nums_length, hl]
  repeat' (first
    | (refine AWL.opN (sl := SL) rfl rfl rfl trivial ?_; (try (conv => arg -1; simp (disch := omega) only [NSX, Nat.reduceBEq, Nat.reduceAdd, Nat.reduceMul, Int.reduceToNat, Nat.reduceSub, TY, slx, take16, drop16, dz, nums_length, hl])))
    | (refine AW.seqQ ?_; intro Qn hQn)
    | (refine AW.blockQ ?_; intro Qn hQn)
    | refine AW.region ?_
    | ((first | refine AW.skip ?_ | refine AW.ret ?_ | refine AW.exit ?_ | refine AWL.nil ?_ | refine CW.nil ?_); (repeat (first | refine QEq.mp (by assumption) ?_ | simp only [thenQ, Go.Abs.blockQ, ↓reduceIte, Nat.reduceEqDiff])))
    | refine FW.nil ?_
    | refine FW.pass rfl rfl ?_
    | refine FW.go rfl ?_
    | refine CW.skip rfl rfl ?_
    | refine CW.step rfl rfl rfl rfl rfl ?_
    | ((first
      | (refine AWL.boxF (t := 26) rfl rfl rfl rfl rfl ?_)
      | (refine AWL.allocF (t := 26) rfl rfl rfl rfl rfl rfl ?_)
      | (refine CWr.allocF (t := 26) rfl rfl rfl ?_ ?_)
      | (refine AWL.op (sl := SL) rfl rfl ?_ ?_)
      | (refine FW.float rfl rfl rfl rfl rfl ?_)
      | (refine CWr.op rfl ?_ ?_ ?_)
      | (refine CWr.assign rfl ?_ ?_)
      | (refine CWr.alloc rfl rfl rfl rfl ?_)
      | (refine CWr.build rfl rfl rfl rfl ?_ rfl rfl rfl ?_)
      | (refine AWL.frzA rfl rfl ?_)
      | (refine AWL.callV (f := 27) rfl rfl rfl rfl ?_ (Nat.le_of_ble_eq_true rfl) rfl (hf1) ?_; (focus kernel_rfl))
      | (refine AWL.call (f := 27) rfl rfl rfl ?_ rfl (Nat.le_of_ble_eq_true rfl) rfl (hf1) ?_; (focus kernel_rfl))
      | (refine CWr.call (f := 27) rfl ?_ rfl (hf1) (fun _ _ h => h) ?_ ?_ ?_; (focus kernel_rfl))
      | (refine AWL.callV (f := 27) rfl rfl rfl rfl ?_ (Nat.le_of_ble_eq_true rfl) rfl (hf2) ?_; (focus kernel_rfl))
      | (refine AWL.call (f := 27) rfl rfl rfl ?_ rfl (Nat.le_of_ble_eq_true rfl) rfl (hf2) ?_; (focus kernel_rfl))
      | (refine CWr.call (f := 27) rfl ?_ rfl (hf2) (fun _ _ h => h) ?_ ?_ ?_; (focus kernel_rfl))
      | (refine AWL.callV (f := 27) rfl rfl rfl rfl ?_ (Nat.le_of_ble_eq_true rfl) rfl (hf3) ?_; (focus kernel_rfl))
      | (refine AWL.call (f := 27) rfl rfl rfl ?_ rfl (Nat.le_of_ble_eq_true rfl) rfl (hf3) ?_; (focus kernel_rfl))
      | (refine CWr.call (f := 27) rfl ?_ rfl (hf3) (fun _ _ h => h) ?_ ?_ ?_; (focus kernel_rfl))
      | (refine AWL.callV (f := 28) rfl rfl rfl rfl ?_ (Nat.le_of_ble_eq_true rfl) rfl (hwid) ?_; (focus kernel_rfl))
      | (refine AWL.call (f := 28) rfl rfl rfl ?_ rfl (Nat.le_of_ble_eq_true rfl) rfl (hwid) ?_; (focus kernel_rfl))
      | (refine CWr.call (f := 28) rfl ?_ rfl (hwid) (fun _ _ h => h) ?_ ?_ ?_; (focus kernel_rfl))
      | (refine AWL.callV (f := 30) rfl rfl rfl rfl ?_ (Nat.le_of_ble_eq_true rfl) rfl (rsigned_ok _ hl hb _ _) ?_; (focus kernel_rfl))
      | (refine AWL.call (f := 30) rfl rfl rfl ?_ rfl (Nat.le_of_ble_eq_true rfl) rfl (rsigned_ok _ hl hb _ _) ?_; (focus kernel_rfl))
      | (refine CWr.call (f := 30) rfl ?_ rfl (rsigned_ok _ hl hb _ _) (fun _ _ h => h) ?_ ?_ ?_; (focus kernel_rfl))
      | (refine AWL.callV (f := 31) rfl rfl rfl rfl ?_ (Nat.le_of_ble_eq_true rfl) rfl (rget_ok _ hl hb _ _) ?_; (focus kernel_rfl))
      | (refine AWL.call (f := 31) rfl rfl rfl ?_ rfl (Nat.le_of_ble_eq_true rfl) rfl (rget_ok _ hl hb _ _) ?_; (focus kernel_rfl))
      | (refine CWr.call (f := 31) rfl ?_ rfl (rget_ok _ hl hb _ _) (fun _ _ h => h) ?_ ?_ ?_; (focus kernel_rfl))
      | (refine AWL.callV (f := 32) rfl rfl rfl rfl ?_ (Nat.le_of_ble_eq_true rfl) rfl (rset_ok _ hl hb _ _ _ hx0 hx1) ?_; (focus kernel_rfl))
      | (refine AWL.call (f := 32) rfl rfl rfl ?_ rfl (Nat.le_of_ble_eq_true rfl) rfl (rset_ok _ hl hb _ _ _ hx0 hx1) ?_; (focus kernel_rfl))
      | (refine CWr.call (f := 32) rfl ?_ rfl (rset_ok _ hl hb _ _ _ hx0 hx1) (fun _ _ h => h) ?_ ?_ ?_; (focus kernel_rfl))
      | fail) <;> (try ((first | show AWL _ _ _ _ _ | show AW _ _ _ _ | show FW _ _ _ _ _ _ _ _ _ _ | show CW _ _ _ _ _ _ _ _ _ _ _ _ | (rintro _ _ ⟨rfl, rfl⟩; (try refine And.intro rfl ?_))); (try (conv => arg -1; simp (disch := omega) only [NSX, Nat.reduceBEq, Nat.reduceAdd, Nat.reduceMul, Int.reduceToNat, Nat.reduceSub, TY, slx, take16, drop16, dz, nums_length, hl])))))
    | ((first | refine AWL.guard2 rfl rfl rfl rfl rfl rfl ?_ ?_ | refine CW.guard2 rfl rfl rfl rfl rfl rfl rfl rfl ?_ ?_) <;> (intro hc; (try simp only [Bool.not_true, Bool.not_false] at hc); first | (cases hc; done) | ((try simp only [hc]); (try simp only [beq_iff_eq, bne_iff_ne, decide_eq_true_eq, decide_eq_false_iff_not, beq_eq_false_iff_ne, bne_eq_false_iff_eq, ne_eq, Bool.not_eq_true, Bool.not_eq_false, Bool.not_eq_eq_eq_not, Bool.not_true, Bool.not_false, Decidable.not_not, Int.not_lt, Int.not_le] at hc); (try (exfalso; omega)); (try (guard_hyp hc : True; clear hc)))))
    | (refine AWL.guard2 rfl rfl rfl rfl rfl rfl (fun hc => ?_) ?_; (cases hc; done))
    | ((first | ((show AW _ (.region _ _ true) _ _); refine AW.calm false [] [] hmix (by (repeat' (first | exact panOk_end | exact panOk_endM | refine panOk_then ?_ | refine panOk_block ?_ | refine QEq.pan (by assumption) ?_))) ?_ rfl ?_; (focus (as_aux_lemma => kernel_rfl))) | refine AWL.guardU rfl rfl rfl rfl rfl rfl ?_ | refine CW.guardU rfl rfl rfl rfl rfl rfl rfl rfl ?_); (try (conv => arg -1; simp (disch := omega) only [NSX, Nat.reduceBEq, Nat.reduceAdd, Nat.reduceMul, Int.reduceToNat, Nat.reduceSub, TY, slx, take16, drop16, dz, nums_length, hl])))
    | refine CW.tail rfl ?_
    | (refine AW.cond rfl (fun hc => ?_) (fun hc => ?_) <;> first | (cases hc; done) | ((try simp only [beq_iff_eq, bne_iff_ne, decide_eq_true_eq, decide_eq_false_iff_not, beq_eq_false_iff_ne, bne_eq_false_iff_eq, ne_eq, Bool.not_eq_true, Bool.not_eq_false, Bool.not_eq_eq_eq_not, Bool.not_true, Bool.not_false, Decidable.not_not, Int.not_lt, Int.not_le] at hc); (try (exfalso; omega)); (try (guard_hyp hc : True; clear hc))))
    | ((refine EndQ.mk rfl rfl rfl ?_ ?_ ?_; (focus (first | exact Or.inl rfl | exact Or.inr rfl))) <;> (try simp (disch := omega) only [NSX, Nat.reduceBEq, Nat.reduceAdd, Nat.reduceMul, Int.reduceToNat, Nat.reduceSub, TY, slx, take16, drop16, dz, nums_length, hl]))
    | (focus ((first | exact trivial | omega | (refine And.intro (by kernel_rfl) (And.intro ⟨_, (by first | exact nums_ints _ _ | rfl), (by first | exact nums_ints _ _ | rfl)⟩ (And.intro ?_ ?_)) <;> (first | rfl | assumption | (simp only [nums_length]; omega) | omega)) | (refine And.intro ?_ (And.intro ?_ ?_); (focus kernel_rfl); (focus kernel_rfl); (focus kernel_rfl)) | ((show newKs _ _ _ = true); kernel_rfl) | ((show FitV _ _ _ _ _ _); (repeat' (first | exact trivial | exact Or.inr (Or.inl rfl) | exact Or.inl rfl | exact Or.inr (Or.inr rfl) | refine And.intro ?_ ?_)); done) | assumption | ((first | refine ld_nums i3 _ _ ?_ | refine ld_nums i22 _ _ ?_ | refine ld_nums i5 _ _ ?_ | refine at_nums i3 _ _ ?_ | refine at_nums i22 _ _ ?_ | refine at_nums i5 _ _ ?_); first | assumption | omega | (simp only [List.length_append]; omega)) | (show _ ≤ _; omega) | (simp only [List.length_take, List.length_drop, List.length_append, List.length_cons, List.length_nil]; omega) | ((repeat' (first | exact trivial | exact rfl | exact Nat.le_of_ble_eq_true rfl | refine And.intro ?_ ?_ | fail)); done) | ((try simp (disch := omega) only [NSX, Nat.reduceBEq, Nat.reduceAdd, Nat.reduceMul, Int.reduceToNat, Nat.reduceSub, TY, slx, take16, drop16, dz, nums_length, hl]); (repeat' (first | exact trivial | exact rfl | exact ⟨_, _, rfl⟩ | exact ⟨_, rfl⟩ | exact Nat.le_of_ble_eq_true rfl | exact Nat.zero_lt_succ _ | omega | (simp only [nums_length, toB_len] at *; omega) | refine And.intro ?_ ?_ | fail)); done)); done))
    | fail)
  all_goals first | exact ⟨trivial, trivial⟩ | exact ⟨rfl, trivial⟩ | exact ⟨rfl, rfl⟩ | exact ⟨trivial, rfl⟩ | (exfalso; omega) | trace_state
end Go.Proofs.Ytgmhfbdmigfgbaa
