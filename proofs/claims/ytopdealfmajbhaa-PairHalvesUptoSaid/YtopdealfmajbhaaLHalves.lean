/- PairHalves. -/
import Derived.Test.YtopdealfmajbhaaV5
import Derived.Test.YtopdealfmajbhaaAwake
import Derived.Test.YtopdealfmajbhaaPlain
import Derived.Test.YtopdealfmajbhaaGet
import Derived.Test.YtopdealfmajbhaaJoin
namespace Go.Proofs.Ytopdealfmajbhaa
set_option linter.unusedSimpArgs false
set_option linter.unusedVariables false
open Go Go.Abs
attribute [local irreducible] AW AWL AC FW CW CWr IntKind.wrap

theorem join_back {v : List Int} (hl : v.length = 16) (hb : bytes v) : join (lo v) (hi v) = v := by
  unfold join lo hi
  have e1 := toB_le (bytes_take hb 8)
  rw [List.length_take, hl] at e1
  have e2 := toB_le (bytes_drop hb 8)
  rw [List.length_drop, hl] at e2
  rw [show min 8 16 = 8 from rfl] at e1
  rw [show 16 - 8 = 8 from rfl] at e2
  rw [e1, e2, List.take_append_drop]
theorem lo_join {l h : Int} (h1 : 0 ≤ l ∧ l < 2 ^ 64) : lo (join l h) = l := by
  unfold join lo
  rw [List.take_append_of_le_length (by rw [toB_len]; exact Nat.le_refl _), List.take_of_length_le (by rw [toB_len]; exact Nat.le_refl _), le_toB]
  exact Int.emod_eq_of_lt h1.1 h1.2
theorem hi_join {l h : Int} (h1 : 0 ≤ h ∧ h < 2 ^ 64) : hi (join l h) = h := by
  unfold join hi
  rw [List.drop_append, List.drop_of_length_le (by rw [toB_len]; exact Nat.le_refl _), List.nil_append, toB_len, List.drop_zero, le_toB]
  exact Int.emod_eq_of_lt h1.1 h1.2
theorem of64 (l h : Int) : of 64 [l, h] = join l h := by
  unfold of
  rw [show [l, h].take (lanes 64) = [l, h] from rfl]
  rw [sets, sets, sets]
  exact (congrArg (fun v => set v 64 1 h) set_lo).trans set_hi
set_option maxRecDepth 4000 in
set_option maxHeartbeats 3200000 in
theorem pairHalves_ok (v : List Int) (l h : Int) (hl : v.length = 16) (hb : bytes v) (h1 : 0 ≤ l ∧ l < 2 ^ 64) (h2 : 0 ≤ h ∧ h < 2 ^ 64) :
    AC Try.prog 5 [.fagg (nums .u8 v), .int .u64 l, .int .u64 h] (fun r m => r = .bool true ∧ m = []) := by
  have hlo := lo_bound hb hl
  have hhi := hi_bound hb hl
  have hjl := join_len l h
  have hjb := join_bytes l h
  have e1 := join_back hl hb
  have e2 := lo_join (h := h) h1
  have e3 := hi_join (l := l) h2
  have e4 := get_lo (v := v)
  have e5 := get_hi hl
  have hof := of_at 2 64 [l, h] rfl (by intro x hx; simp at hx; rcases hx with rfl | rfl <;> omega) (by simp)
  rw [of64] at hof
  obtain ⟨q, hq⟩ : ∃ q, h.fdiv (2 ^ min 56 IntKind.u64.bits) = q := ⟨_, rfl⟩
  have hj0 : (join l h).getD 0 0 = IntKind.u8.wrap l := by
    rw [u8mod, join, toB, List.cons_append, List.getD_cons_zero]
  have hj15 : (join l h).getD 15 0 = IntKind.u8.wrap q := by
    rw [u8mod, ← hq, show min 56 IntKind.u64.bits = 56 from rfl, fdiv_pow _ _ h2.1]
    have := toB_getD 8 h 7 (by decide)
    unfold join
    rw [List.getD_eq_getElem?_getD, List.getElem?_append_right (by rw [toB_len]; decide), toB_len, ← List.getD_eq_getElem?_getD]
    exact this
  refine AC.enter Try.func5 rfl (Nat.le_of_ble_eq_true rfl) ?_
  simp only [Try.f5]
  have hchk : True := by simp only [TY, slx, take16, drop16, dz, nums_length, e1, e2, e3, e4, e5, hq, hj0, hj15, hl, hjl, take16, eq_self, decide_true, Bool.and_self]
  repeat' (first
    | (refine AWL.opN (sl := SL) rfl rfl rfl trivial ?_; (try (conv => arg -1; simp (disch := omega) only [NSX, Nat.reduceBEq, Nat.reduceAdd, Nat.reduceMul, Int.reduceToNat, Nat.reduceSub, TY, slx, take16, drop16, dz, nums_length, e1, e2, e3, e4, e5, hq, hj0, hj15, hl, hjl, take16, eq_self, decide_true, Bool.and_self])))
    | (refine AW.seqQ ?_; intro Qn hQn)
    | (refine AW.blockQ ?_; intro Qn hQn)
    | refine AW.region ?_
    | ((first | refine AW.skip ?_ | refine AW.ret ?_ | refine AW.exit ?_ | refine AWL.nil ?_ | refine CW.nil ?_); (repeat (first | refine QEq.mp (by assumption) ?_ | simp only [thenQ, Go.Abs.blockQ, ↓reduceIte, Nat.reduceEqDiff])))
    | refine FW.nil ?_
    | refine FW.pass rfl rfl ?_
    | refine FW.go rfl ?_
    | refine CW.skip rfl rfl ?_
    | refine CW.step rfl rfl rfl rfl rfl ?_
    | ((first
      | (refine AWL.boxF (t := 25) rfl rfl rfl rfl rfl ?_)
      | (refine AWL.allocF (t := 25) rfl rfl rfl rfl rfl rfl ?_)
      | (refine CWr.allocF (t := 25) rfl rfl rfl ?_ ?_)
      | (refine AWL.op (sl := SL) rfl rfl ?_ ?_)
      | (refine FW.float rfl rfl rfl rfl rfl ?_)
      | (refine CWr.op rfl ?_ ?_ ?_)
      | (refine CWr.assign rfl ?_ ?_)
      | (refine CWr.alloc rfl rfl rfl rfl ?_)
      | (refine CWr.build rfl rfl rfl rfl ?_ rfl rfl rfl ?_)
      | (refine AWL.frzA rfl rfl ?_)
      | (refine AWL.callV (f := 10) rfl rfl rfl rfl ?_ (Nat.le_of_ble_eq_true rfl) rfl (awake_ok) ?_; (focus kernel_rfl))
      | (refine AWL.call (f := 10) rfl rfl rfl ?_ rfl (Nat.le_of_ble_eq_true rfl) rfl (awake_ok) ?_; (focus kernel_rfl))
      | (refine CWr.call (f := 10) rfl ?_ rfl (awake_ok) (fun _ _ h => h) ?_ ?_ ?_; (focus kernel_rfl))
      | (refine AWL.callV (f := 18) rfl rfl rfl rfl ?_ (Nat.le_of_ble_eq_true rfl) rfl (split_ok _ hl hb) ?_; (focus kernel_rfl))
      | (refine AWL.call (f := 18) rfl rfl rfl ?_ rfl (Nat.le_of_ble_eq_true rfl) rfl (split_ok _ hl hb) ?_; (focus kernel_rfl))
      | (refine CWr.call (f := 18) rfl ?_ rfl (split_ok _ hl hb) (fun _ _ h => h) ?_ ?_ ?_; (focus kernel_rfl))
      | (refine AWL.callV (f := 18) rfl rfl rfl rfl ?_ (Nat.le_of_ble_eq_true rfl) rfl (split_ok _ hjl hjb) ?_; (focus kernel_rfl))
      | (refine AWL.call (f := 18) rfl rfl rfl ?_ rfl (Nat.le_of_ble_eq_true rfl) rfl (split_ok _ hjl hjb) ?_; (focus kernel_rfl))
      | (refine CWr.call (f := 18) rfl ?_ rfl (split_ok _ hjl hjb) (fun _ _ h => h) ?_ ?_ ?_; (focus kernel_rfl))
      | (refine AWL.callV (f := 19) rfl rfl rfl rfl ?_ (Nat.le_of_ble_eq_true rfl) rfl (join_ok _ _ hlo.1 hhi.1) ?_; (focus kernel_rfl))
      | (refine AWL.call (f := 19) rfl rfl rfl ?_ rfl (Nat.le_of_ble_eq_true rfl) rfl (join_ok _ _ hlo.1 hhi.1) ?_; (focus kernel_rfl))
      | (refine CWr.call (f := 19) rfl ?_ rfl (join_ok _ _ hlo.1 hhi.1) (fun _ _ h => h) ?_ ?_ ?_; (focus kernel_rfl))
      | (refine AWL.callV (f := 19) rfl rfl rfl rfl ?_ (Nat.le_of_ble_eq_true rfl) rfl (join_ok _ _ h1.1 h2.1) ?_; (focus kernel_rfl))
      | (refine AWL.call (f := 19) rfl rfl rfl ?_ rfl (Nat.le_of_ble_eq_true rfl) rfl (join_ok _ _ h1.1 h2.1) ?_; (focus kernel_rfl))
      | (refine CWr.call (f := 19) rfl ?_ rfl (join_ok _ _ h1.1 h2.1) (fun _ _ h => h) ?_ ?_ ?_; (focus kernel_rfl))
      | (refine AWL.callV (f := 16) rfl rfl rfl rfl ?_ (Nat.le_of_ble_eq_true rfl) rfl (get_ok _ hl hb _ _) ?_; (focus kernel_rfl))
      | (refine AWL.call (f := 16) rfl rfl rfl ?_ rfl (Nat.le_of_ble_eq_true rfl) rfl (get_ok _ hl hb _ _) ?_; (focus kernel_rfl))
      | (refine CWr.call (f := 16) rfl ?_ rfl (get_ok _ hl hb _ _) (fun _ _ h => h) ?_ ?_ ?_; (focus kernel_rfl))
      | (refine AWL.callV (f := 11) rfl rfl rfl rfl ?_ (Nat.le_of_ble_eq_true rfl) rfl (hof) ?_; (focus kernel_rfl))
      | (refine AWL.call (f := 11) rfl rfl rfl ?_ rfl (Nat.le_of_ble_eq_true rfl) rfl (hof) ?_; (focus kernel_rfl))
      | (refine CWr.call (f := 11) rfl ?_ rfl (hof) (fun _ _ h => h) ?_ ?_ ?_; (focus kernel_rfl))
      | fail) <;> (try ((first | show AWL _ _ _ _ _ | show AW _ _ _ _ | show FW _ _ _ _ _ _ _ _ _ _ | show CW _ _ _ _ _ _ _ _ _ _ _ _ | (rintro _ _ ⟨rfl, rfl⟩; (try refine And.intro rfl ?_))); (try (conv => arg -1; simp (disch := omega) only [NSX, Nat.reduceBEq, Nat.reduceAdd, Nat.reduceMul, Int.reduceToNat, Nat.reduceSub, TY, slx, take16, drop16, dz, nums_length, e1, e2, e3, e4, e5, hq, hj0, hj15, hl, hjl, take16, eq_self, decide_true, Bool.and_self])))))
    | ((first | refine AWL.guard2 rfl rfl rfl rfl rfl rfl ?_ ?_ | refine CW.guard2 rfl rfl rfl rfl rfl rfl rfl rfl ?_ ?_) <;> (intro hc; (try simp only [Bool.not_true, Bool.not_false] at hc); first | (cases hc; done) | ((try simp only [hc]); (try simp only [beq_iff_eq, bne_iff_ne, decide_eq_true_eq, decide_eq_false_iff_not, beq_eq_false_iff_ne, bne_eq_false_iff_eq, ne_eq, Bool.not_eq_true, Bool.not_eq_false, Bool.not_eq_eq_eq_not, Bool.not_true, Bool.not_false, Decidable.not_not, Int.not_lt, Int.not_le] at hc); (try (exfalso; omega)); (try (guard_hyp hc : True; clear hc)))))
    | (refine AWL.guard2 rfl rfl rfl rfl rfl rfl (fun hc => ?_) ?_; (cases hc; done))
    | ((first | ((show AW _ (.region _ _ true) _ _); refine AW.calm false [] [47] (id := 5) hmix (by (repeat' (first | exact panOk_end | exact panOk_endM | refine panOk_then ?_ | refine panOk_block ?_ | refine QEq.pan (by assumption) ?_))) ?_ rfl ?_; (focus (as_aux_lemma => kernel_rfl))) | ((show AW _ (.region _ _ true) _ _); refine AW.calm false [] [] hmix (by (repeat' (first | exact panOk_end | exact panOk_endM | refine panOk_then ?_ | refine panOk_block ?_ | refine QEq.pan (by assumption) ?_))) ?_ rfl ?_; (focus (as_aux_lemma => kernel_rfl))) | refine AWL.guardU rfl rfl rfl rfl rfl rfl ?_ | refine CW.guardU rfl rfl rfl rfl rfl rfl rfl rfl ?_); (try (conv => arg -1; simp (disch := omega) only [NSX, Nat.reduceBEq, Nat.reduceAdd, Nat.reduceMul, Int.reduceToNat, Nat.reduceSub, TY, slx, take16, drop16, dz, nums_length, e1, e2, e3, e4, e5, hq, hj0, hj15, hl, hjl, take16, eq_self, decide_true, Bool.and_self])))
    | refine CW.tail rfl ?_
    | (refine AW.cond rfl (fun hc => ?_) (fun hc => ?_) <;> first | (cases hc; done) | ((try simp only [beq_iff_eq, bne_iff_ne, decide_eq_true_eq, decide_eq_false_iff_not, beq_eq_false_iff_ne, bne_eq_false_iff_eq, ne_eq, Bool.not_eq_true, Bool.not_eq_false, Bool.not_eq_eq_eq_not, Bool.not_true, Bool.not_false, Decidable.not_not, Int.not_lt, Int.not_le] at hc); (try (exfalso; omega)); (try (guard_hyp hc : True; clear hc))))
    | ((refine EndQ.mk rfl rfl rfl ?_ ?_ ?_; (focus (first | exact Or.inl rfl | exact Or.inr rfl))) <;> (try simp (disch := omega) only [NSX, Nat.reduceBEq, Nat.reduceAdd, Nat.reduceMul, Int.reduceToNat, Nat.reduceSub, TY, slx, take16, drop16, dz, nums_length, e1, e2, e3, e4, e5, hq, hj0, hj15, hl, hjl, take16, eq_self, decide_true, Bool.and_self]))
    | (focus ((first | exact trivial | omega | (refine And.intro (by kernel_rfl) (And.intro ⟨_, (by first | exact nums_ints _ _ | rfl), (by first | exact nums_ints _ _ | rfl)⟩ (And.intro ?_ ?_)) <;> (first | rfl | assumption | (simp only [nums_length]; omega) | omega)) | (refine And.intro ?_ (And.intro ?_ ?_); (focus kernel_rfl); (focus kernel_rfl); (focus kernel_rfl)) | ((show newKs _ _ _ = true); kernel_rfl) | ((show FitV _ _ _ _ _ _); (repeat' (first | exact trivial | exact Or.inr (Or.inl rfl) | exact Or.inl rfl | exact Or.inr (Or.inr rfl) | refine And.intro ?_ ?_)); done) | assumption | ((first | refine ld_nums i3 _ _ ?_ | refine ld_nums i29 _ _ ?_ | refine ld_nums i5 _ _ ?_ | refine at_nums i3 _ _ ?_ | refine at_nums i29 _ _ ?_ | refine at_nums i5 _ _ ?_); first | assumption | omega | (simp only [List.length_append]; omega)) | (show _ ≤ _; omega) | (simp only [List.length_take, List.length_drop, List.length_append, List.length_cons, List.length_nil]; omega) | ((repeat' (first | exact trivial | exact rfl | exact Nat.le_of_ble_eq_true rfl | refine And.intro ?_ ?_ | fail)); done) | ((try simp (disch := omega) only [NSX, Nat.reduceBEq, Nat.reduceAdd, Nat.reduceMul, Int.reduceToNat, Nat.reduceSub, TY, slx, take16, drop16, dz, nums_length, e1, e2, e3, e4, e5, hq, hj0, hj15, hl, hjl, take16, eq_self, decide_true, Bool.and_self]); (repeat' (first | exact trivial | exact rfl | exact ⟨_, _, rfl⟩ | exact ⟨_, rfl⟩ | exact Nat.le_of_ble_eq_true rfl | exact Nat.zero_lt_succ _ | omega | (simp only [nums_length, toB_len] at *; omega) | refine And.intro ?_ ?_ | fail)); done)); done))
    | fail)
  all_goals first | exact ⟨trivial, trivial⟩ | exact ⟨rfl, trivial⟩ | exact ⟨rfl, rfl⟩ | exact ⟨trivial, rfl⟩ | (exfalso; omega) | trace_state
end Go.Proofs.Ytopdealfmajbhaa
