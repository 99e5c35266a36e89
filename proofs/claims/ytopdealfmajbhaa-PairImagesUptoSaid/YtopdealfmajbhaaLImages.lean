/- PairImages. -/
import Derived.Test.YtopdealfmajbhaaV5
import Derived.Test.YtopdealfmajbhaaAwake
import Derived.Test.YtopdealfmajbhaaRPut
import Derived.Test.YtopdealfmajbhaaRTake
import Derived.Test.YtopdealfmajbhaaSame
import Derived.Test.YtopdealfmajbhaaVecs
namespace Go.Proofs.Ytopdealfmajbhaa
set_option linter.unusedSimpArgs false
set_option linter.unusedVariables false
open Go Go.Abs
attribute [local irreducible] AW AWL AC FW CW CWr IntKind.wrap

theorem put1_len (t : Int) (v : List Int) : (put1 t v).length ≤ 2 := by
  unfold put1; split
  · simp
  · split
    · simp
    · split <;> simp
theorem putR_len (ts : List Int) (vs : List (List Int)) (o : List Int) : (putR ts vs o).1.length ≤ o.length + 2 * ts.length := by
  induction ts generalizing vs o with
  | nil => simp [putR]
  | cons t ts ih =>
    cases vs with
    | nil => simp [putR]
    | cons v vs =>
      by_cases h : need t = 0
      · rw [putR_bad h]; simp
      · rw [putR_ok h]
        have := ih vs (o ++ put1 t v)
        have := put1_len t v
        simp only [List.length_append, List.length_cons] at *; omega
theorem putS_len (ts : List Int) (vs : List (List Int)) : (putS ts vs).1.length ≤ 2 * ts.length := by
  unfold putS; split
  · have := putR_len ts vs []; simpa using this
  · simp
theorem takeR_ok2 (ts hs : List Int) (o : List (List Int)) (ho : vecs o) : (takeR ts hs o).1.length ≤ o.length + ts.length ∧ vecs (takeR ts hs o).1 := by
  induction ts generalizing hs o with
  | nil =>
    unfold takeR; split
    · exact ⟨by simp, ho⟩
    · exact ⟨by simp, by intro v hv; cases hv⟩
  | cons t ts ih =>
    by_cases h : need t = 0 ∨ hs.length < need t
    · rw [takeR_bad h]; exact ⟨by simp, by intro v hv; cases hv⟩
    · rw [takeR_ok h]
      have := ih (hs.drop (need t)) (o ++ [take1 t hs]) (vecs_snoc ho (take1_ok t hs))
      refine ⟨?_, this.2⟩
      have := this.1
      simp only [List.length_append, List.length_cons, List.length_nil] at *; omega
set_option maxRecDepth 4000 in
set_option maxHeartbeats 3200000 in
theorem pairImages_ok (ts : List Int) (vs : List (List Int)) (hs : List Int) (hv : vecs vs) (hh : u64s hs) (hlen : ts.length ≤ 1048576) :
    AC Try.prog 7 [.view ts.length 1 (nums .i64 ts), .view vs.length 16 (vecC vs), .view hs.length 1 (nums .u64 hs)] (fun r m => r = .bool true ∧ m = []) := by
  have hpl : (putS ts vs).1.length ≤ 1000000000000000 := by have := putS_len ts vs; omega
  obtain ⟨htl, htv⟩ := takeR_ok2 ts hs [] (by intro v hv; cases hv)
  have htl : (takeR ts hs []).1.length ≤ 1048576 := by simp only [List.length_nil] at htl; omega
  have htc : (vecC (takeR ts hs []).1).take ((takeR ts hs []).1.length * 16) = vecC (takeR ts hs []).1 := List.take_of_length_le (by rw [vecC_len htv]; exact Nat.le_refl _)
  refine AC.enter Try.func7 rfl (Nat.le_of_ble_eq_true rfl) ?_
  simp only [Try.f7]
  have hchk : True := by simp only [TY, slx, take16, drop16, dz, nums_length, eq_self, decide_true, Bool.and_self, htc, List.take_length]
  repeat' (first
    | (refine AWL.opN (sl := SL) rfl rfl rfl trivial ?_; (try (conv => arg -1; simp (disch := omega) only [NSX, Nat.reduceBEq, Nat.reduceAdd, Nat.reduceMul, Int.reduceToNat, Nat.reduceSub, TY, slx, take16, drop16, dz, nums_length, eq_self, decide_true, Bool.and_self, htc, List.take_length])))
    | (refine AW.seqQ ?_; intro Qn hQn)
    | (refine AW.blockQ ?_; intro Qn hQn)
    | refine AW.region ?_
    | ((first | refine AW.skip ?_ | refine AW.ret ?_ | refine AW.exit ?_ | refine AWL.nil ?_ | refine CW.nil ?_); (repeat (first | refine QEq.mp (by assumption) ?_ | simp only [thenQ, Go.Abs.blockQ, ↓reduceIte, Nat.reduceEqDiff])))
    | refine FW.nil ?_
    | refine FW.pass rfl rfl ?_
    | refine FW.go rfl ?_
    | refine CW.skip rfl rfl ?_
    | refine CW.step rfl rfl rfl rfl rfl ?_
    | ((first
      | (refine AWL.boxF (t := 25) rfl rfl rfl rfl rfl ?_)
      | (refine AWL.allocF (t := 25) rfl rfl rfl rfl rfl rfl ?_)
      | (refine CWr.allocF (t := 25) rfl rfl rfl ?_ ?_)
      | (refine AWL.op (sl := SL) rfl rfl ?_ ?_)
      | (refine FW.float rfl rfl rfl rfl rfl ?_)
      | (refine CWr.op rfl ?_ ?_ ?_)
      | (refine CWr.assign rfl ?_ ?_)
      | (refine CWr.alloc rfl rfl rfl rfl ?_)
      | (refine CWr.build rfl rfl rfl rfl ?_ rfl rfl rfl ?_)
      | (refine AWL.frzA rfl rfl ?_)
      | (refine AWL.callV (f := 10) rfl rfl rfl rfl ?_ (Nat.le_of_ble_eq_true rfl) rfl (awake_ok) ?_; (focus kernel_rfl))
      | (refine AWL.call (f := 10) rfl rfl rfl ?_ rfl (Nat.le_of_ble_eq_true rfl) rfl (awake_ok) ?_; (focus kernel_rfl))
      | (refine CWr.call (f := 10) rfl ?_ rfl (awake_ok) (fun _ _ h => h) ?_ ?_ ?_; (focus kernel_rfl))
      | (refine AWL.callV (f := 28) rfl rfl rfl rfl ?_ (Nat.le_of_ble_eq_true rfl) rfl (put_ok _ _ hv hlen) ?_; (focus kernel_rfl))
      | (refine AWL.call (f := 28) rfl rfl rfl ?_ rfl (Nat.le_of_ble_eq_true rfl) rfl (put_ok _ _ hv hlen) ?_; (focus kernel_rfl))
      | (refine CWr.call (f := 28) rfl ?_ rfl (put_ok _ _ hv hlen) (fun _ _ h => h) ?_ ?_ ?_; (focus kernel_rfl))
      | (refine AWL.callV (f := 29) rfl rfl rfl rfl ?_ (Nat.le_of_ble_eq_true rfl) rfl (rput_ok _ _ hv hlen) ?_; (focus kernel_rfl))
      | (refine AWL.call (f := 29) rfl rfl rfl ?_ rfl (Nat.le_of_ble_eq_true rfl) rfl (rput_ok _ _ hv hlen) ?_; (focus kernel_rfl))
      | (refine CWr.call (f := 29) rfl ?_ rfl (rput_ok _ _ hv hlen) (fun _ _ h => h) ?_ ?_ ?_; (focus kernel_rfl))
      | (refine AWL.callV (f := 30) rfl rfl rfl rfl ?_ (Nat.le_of_ble_eq_true rfl) rfl (take_ok _ _ hh hlen) ?_; (focus kernel_rfl))
      | (refine AWL.call (f := 30) rfl rfl rfl ?_ rfl (Nat.le_of_ble_eq_true rfl) rfl (take_ok _ _ hh hlen) ?_; (focus kernel_rfl))
      | (refine CWr.call (f := 30) rfl ?_ rfl (take_ok _ _ hh hlen) (fun _ _ h => h) ?_ ?_ ?_; (focus kernel_rfl))
      | (refine AWL.callV (f := 31) rfl rfl rfl rfl ?_ (Nat.le_of_ble_eq_true rfl) rfl (rtake_ok _ _ hh hlen) ?_; (focus kernel_rfl))
      | (refine AWL.call (f := 31) rfl rfl rfl ?_ rfl (Nat.le_of_ble_eq_true rfl) rfl (rtake_ok _ _ hh hlen) ?_; (focus kernel_rfl))
      | (refine CWr.call (f := 31) rfl ?_ rfl (rtake_ok _ _ hh hlen) (fun _ _ h => h) ?_ ?_ ?_; (focus kernel_rfl))
      | (refine AWL.callV (f := 24) rfl rfl rfl rfl ?_ (Nat.le_of_ble_eq_true rfl) rfl (same_at _ _ _ _ ?_ ?_ hpl) ?_; (focus kernel_rfl))
      | (refine AWL.call (f := 24) rfl rfl rfl ?_ rfl (Nat.le_of_ble_eq_true rfl) rfl (same_at _ _ _ _ ?_ ?_ hpl) ?_; (focus kernel_rfl))
      | (refine CWr.call (f := 24) rfl ?_ rfl (same_at _ _ _ _ ?_ ?_ hpl) (fun _ _ h => h) ?_ ?_ ?_; (focus kernel_rfl))
      | (refine AWL.callV (f := 32) rfl rfl rfl rfl ?_ (Nat.le_of_ble_eq_true rfl) rfl (vecs_at _ _ _ _ ?_ ?_ htv htv htl) ?_; (focus kernel_rfl))
      | (refine AWL.call (f := 32) rfl rfl rfl ?_ rfl (Nat.le_of_ble_eq_true rfl) rfl (vecs_at _ _ _ _ ?_ ?_ htv htv htl) ?_; (focus kernel_rfl))
      | (refine CWr.call (f := 32) rfl ?_ rfl (vecs_at _ _ _ _ ?_ ?_ htv htv htl) (fun _ _ h => h) ?_ ?_ ?_; (focus kernel_rfl))
      | fail) <;> (try ((first | show AWL _ _ _ _ _ | show AW _ _ _ _ | show FW _ _ _ _ _ _ _ _ _ _ | show CW _ _ _ _ _ _ _ _ _ _ _ _ | (rintro _ _ ⟨rfl, rfl⟩; (try refine And.intro rfl ?_))); (try (conv => arg -1; simp (disch := omega) only [NSX, Nat.reduceBEq, Nat.reduceAdd, Nat.reduceMul, Int.reduceToNat, Nat.reduceSub, TY, slx, take16, drop16, dz, nums_length, eq_self, decide_true, Bool.and_self, htc, List.take_length])))))
    | ((first | refine AWL.guard2 rfl rfl rfl rfl rfl rfl ?_ ?_ | refine CW.guard2 rfl rfl rfl rfl rfl rfl rfl rfl ?_ ?_) <;> (intro hc; (try simp only [Bool.not_true, Bool.not_false] at hc); first | (cases hc; done) | ((try simp only [hc]); (try simp only [beq_iff_eq, bne_iff_ne, decide_eq_true_eq, decide_eq_false_iff_not, beq_eq_false_iff_ne, bne_eq_false_iff_eq, ne_eq, Bool.not_eq_true, Bool.not_eq_false, Bool.not_eq_eq_eq_not, Bool.not_true, Bool.not_false, Decidable.not_not, Int.not_lt, Int.not_le] at hc); (try (exfalso; omega)); (try (guard_hyp hc : True; clear hc)))))
    | (refine AWL.guard2 rfl rfl rfl rfl rfl rfl (fun hc => ?_) ?_; (cases hc; done))
    | ((first | ((show AW _ (.region _ _ true) _ _); refine AW.calm false [] [] hmix (by (repeat' (first | exact panOk_end | exact panOk_endM | refine panOk_then ?_ | refine panOk_block ?_ | refine QEq.pan (by assumption) ?_))) ?_ rfl ?_; (focus (as_aux_lemma => kernel_rfl))) | refine AWL.guardU rfl rfl rfl rfl rfl rfl ?_ | refine CW.guardU rfl rfl rfl rfl rfl rfl rfl rfl ?_); (try (conv => arg -1; simp (disch := omega) only [NSX, Nat.reduceBEq, Nat.reduceAdd, Nat.reduceMul, Int.reduceToNat, Nat.reduceSub, TY, slx, take16, drop16, dz, nums_length, eq_self, decide_true, Bool.and_self, htc, List.take_length])))
    | refine CW.tail rfl ?_
    | (refine AW.cond rfl (fun hc => ?_) (fun hc => ?_) <;> first | (cases hc; done) | ((try simp only [beq_iff_eq, bne_iff_ne, decide_eq_true_eq, decide_eq_false_iff_not, beq_eq_false_iff_ne, bne_eq_false_iff_eq, ne_eq, Bool.not_eq_true, Bool.not_eq_false, Bool.not_eq_eq_eq_not, Bool.not_true, Bool.not_false, Decidable.not_not, Int.not_lt, Int.not_le] at hc); (try (exfalso; omega)); (try (guard_hyp hc : True; clear hc))))
    | ((refine EndQ.mk rfl rfl rfl ?_ ?_ ?_; (focus (first | exact Or.inl rfl | exact Or.inr rfl))) <;> (try simp (disch := omega) only [NSX, Nat.reduceBEq, Nat.reduceAdd, Nat.reduceMul, Int.reduceToNat, Nat.reduceSub, TY, slx, take16, drop16, dz, nums_length, eq_self, decide_true, Bool.and_self, htc, List.take_length]))
    | (focus ((first | exact trivial | omega | (refine And.intro (by kernel_rfl) (And.intro ⟨_, (by first | exact nums_ints _ _ | rfl), (by first | exact nums_ints _ _ | rfl)⟩ (And.intro ?_ ?_)) <;> (first | rfl | assumption | (simp only [nums_length]; omega) | omega)) | (refine And.intro ?_ (And.intro ?_ ?_); (focus kernel_rfl); (focus kernel_rfl); (focus kernel_rfl)) | ((show newKs _ _ _ = true); kernel_rfl) | ((show FitV _ _ _ _ _ _); (repeat' (first | exact trivial | exact Or.inr (Or.inl rfl) | exact Or.inl rfl | exact Or.inr (Or.inr rfl) | refine And.intro ?_ ?_)); done) | assumption | ((first | refine ld_nums i3 _ _ ?_ | refine ld_nums i29 _ _ ?_ | refine ld_nums i5 _ _ ?_ | refine at_nums i3 _ _ ?_ | refine at_nums i29 _ _ ?_ | refine at_nums i5 _ _ ?_); first | assumption | omega | (simp only [List.length_append]; omega)) | (show _ ≤ _; omega) | (simp only [List.length_take, List.length_drop, List.length_append, List.length_cons, List.length_nil]; omega) | ((repeat' (first | exact trivial | exact rfl | exact Nat.le_of_ble_eq_true rfl | refine And.intro ?_ ?_ | fail)); done) | ((try simp (disch := omega) only [NSX, Nat.reduceBEq, Nat.reduceAdd, Nat.reduceMul, Int.reduceToNat, Nat.reduceSub, TY, slx, take16, drop16, dz, nums_length, eq_self, decide_true, Bool.and_self, htc, List.take_length]); (repeat' (first | exact trivial | exact rfl | exact ⟨_, _, rfl⟩ | exact ⟨_, rfl⟩ | exact Nat.le_of_ble_eq_true rfl | exact Nat.zero_lt_succ _ | omega | (simp only [nums_length, toB_len] at *; omega) | refine And.intro ?_ ?_ | fail)); done)); done))
    | fail)
  all_goals first | exact ⟨trivial, trivial⟩ | exact ⟨rfl, trivial⟩ | exact ⟨rfl, rfl⟩ | exact ⟨trivial, rfl⟩ | (exfalso; omega) | trace_state
end Go.Proofs.Ytopdealfmajbhaa
