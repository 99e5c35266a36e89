/- SplitCanon. -/
import Derived.Test.YtbdmieljkgcpcaaV4
import Derived.Test.YtbdmieljkgcpcaaAwake
namespace Go.Proofs.Ytbdmieljkgcpcaa
set_option linter.unusedSimpArgs false
set_option linter.unusedVariables false
open Go Go.Abs
attribute [local irreducible] AW AWL AC DQ IntKind.wrap

theorem small_ten {l : List Sg} (h : small l) {k : Nat} (hk : k < l.length) : (l.getD k ([], [])).1.length ≤ 1000000000000000 ∧ (l.getD k ([], [])).2.length ≤ 1000000000000000 := by
  have := small_at h hk; omega
theorem samesig_f (s t : Sg) (ha : s.1.length ≤ 1000000000000000 ∧ s.2.length ≤ 1000000000000000) :
    AC Try.prog 18 [.fagg [.view s.1.length 1 (nums .i64 s.1), .view s.2.length 1 (nums .i64 s.2)], .fagg [.view t.1.length 1 (nums .i64 t.1), .view t.2.length 1 (nums .i64 t.2)]] (fun r m => r = .bool (decide (s = t)) ∧ m = []) := samesig_sg s t ha
theorem firstEq_spec (l : List Sg) (k : Nat) (hk : k < l.length) : firstEq l (l.getD k ([], [])) ≤ k ∧ l.getD (firstEq l (l.getD k ([], []))) ([], []) = l.getD k ([], []) := by
  induction l generalizing k with
  | nil => exact absurd hk (Nat.not_lt_zero _)
  | cons t l ih =>
    cases k with
    | zero => simp [firstEq]
    | succ k =>
      have := ih k (by simpa using hk)
      simp only [List.getD_cons_succ, firstEq]
      split
      · rename_i h; exact ⟨by omega, by rw [List.getD_cons_zero]; exact h⟩
      · exact ⟨by omega, by rw [List.getD_cons_succ]; exact this.2⟩
theorem canon_in (l : List Sg) (k : Nat) (hk : k < l.length) : canon l k = (firstEq l (l.getD k ([], [])) : Int) := by
  unfold canon; rw [if_neg (by omega), Int.toNat_natCast]
theorem canon_out (l : List Sg) (k : Int) (hk : k < 0 ∨ k ≥ l.length) : canon l k = -1 := by
  unfold canon; rw [if_pos hk]
/-- what is known of a number -/
def Num (ts : List Sg) (i c : Int) (b1 b2 : Bool) : Prop := canon ts i = c ∧ decide (i < 0) = b1 ∧ decide (i ≥ ts.length) = b2 ∧ (c == -1) = (b1 || b2)
theorem num_any (ts : List Sg) (i : Int) : Num ts i (-1) true false ∨ Num ts i (-1) false true ∨ ∃ n : Nat, i = n ∧ n < ts.length ∧ Num ts i (firstEq ts (ts.getD n ([], []))) false false := by
  unfold Num
  by_cases h : i < 0
  · left
    exact ⟨canon_out ts i (.inl h), by simpa using h, by simp; omega, rfl⟩
  · by_cases h2 : i ≥ ts.length
    · right; left
      exact ⟨canon_out ts i (.inr h2), by simpa using h, by simpa using h2, rfl⟩
    · right; right
      obtain ⟨n, rfl⟩ : ∃ n : Nat, i = n := ⟨i.toNat, by omega⟩
      refine ⟨n, rfl, by omega, canon_in ts n (by omega), by simp <;> omega, by simp <;> omega, ?_⟩
      rw [beq_eq_false_iff_ne.2 (by omega)]; rfl
set_option maxRecDepth 4000 in
set_option maxHeartbeats 4000000 in
/-- a number is out of the row -/
theorem splitCanon_out (ts : List Sg) (hsm : small ts) (hlen : ts.length ≤ 1048576) (i k c1 c2 : Int) (b1 b2 b3 b4 : Bool) (h1 : Num ts i c1 b1 b2) (h2 : Num ts k c2 b3 b4) (h : ((b1 || b2) || (b3 || b4)) = true) (n1 : (b1 && b2) = false) (n2 : (b3 && b4) = false) :
    AC Try.prog 6 [.view ts.length 2 (sigC ts), .int .i64 i, .int .i64 k] (fun r m => r = .bool true ∧ m = []) := by
  obtain ⟨e1, d1, d2, q1⟩ := h1
  obtain ⟨e2, d3, d4, q2⟩ := h2
  cases b1 <;> cases b2 <;> cases b3 <;> cases b4 <;> first | (cases h; done) | (cases n1; done) | (cases n2; done) | skip
  all_goals refine AC.enter Try.func6 rfl (Nat.le_of_ble_eq_true rfl) ?_
  all_goals simp only [Try.f6]
  all_goals simp only [Bool.or_true, Bool.or_false] at q1 q2
  all_goals (
    repeat' (first
      | refine AW.seq ?_
      | refine AW.block ?_
      | refine AW.region ?_
      | (refine AW.skip ?_; (try simp only [thenQ, blockQ, ↓reduceIte, Nat.reduceEqDiff]))
      | (refine AW.ret ?_; (try simp only [thenQ, blockQ, ↓reduceIte, Nat.reduceEqDiff]))
      | (refine AW.exit ?_; (try simp only [thenQ, blockQ, ↓reduceIte, Nat.reduceEqDiff]))
      | (refine AWL.nil ?_; (try simp only [thenQ, blockQ, ↓reduceIte, Nat.reduceEqDiff]))
      | (refine DQ.nil ?_; (try simp only [thenQ, blockQ, ↓reduceIte, Nat.reduceEqDiff]))
      | ((first
        | (refine AWL.op (sl := SL) rfl rfl ?_ ?_)
        | (refine DQ.op rfl rfl rfl rfl rfl ?_ ?_)
        | (refine DQ.yes rfl ?_ ?_)
        | (refine DQ.step rfl rfl rfl rfl (QStep.assign rfl) ?_)
        | (refine AWL.frzA rfl rfl ?_)
        | (refine AWL.callV (f := 9) rfl rfl rfl rfl ?_ (Nat.le_of_ble_eq_true rfl) rfl (awake_ok) ?_; (focus kernel_rfl))
        | (refine AWL.call (f := 9) rfl rfl rfl ?_ rfl (Nat.le_of_ble_eq_true rfl) rfl (awake_ok) ?_; (focus kernel_rfl))
        | (refine DQ.step rfl rfl rfl rfl (QStep.call (f := 9) rfl ?_ rfl (awake_ok) (fun _ _ h => h) (fun _ => rfl)) ?_; (focus kernel_rfl))
        | (refine DQ.yesC (QStep.call (f := 9) rfl ?_ rfl (awake_ok) (fun _ _ h => h) (fun _ => rfl)) ?_; (focus kernel_rfl))
        | (refine AWL.callV (f := 20) rfl rfl rfl rfl ?_ (Nat.le_of_ble_eq_true rfl) rfl (canon_ag _ ts ?_ hsm ?_ _) ?_; (focus kernel_rfl))
        | (refine AWL.call (f := 20) rfl rfl rfl ?_ rfl (Nat.le_of_ble_eq_true rfl) rfl (canon_ag _ ts ?_ hsm ?_ _) ?_; (focus kernel_rfl))
        | (refine DQ.step rfl rfl rfl rfl (QStep.call (f := 20) rfl ?_ rfl (canon_ag _ ts ?_ hsm ?_ _) (fun _ _ h => h) (fun _ => rfl)) ?_; (focus kernel_rfl))
        | (refine DQ.yesC (QStep.call (f := 20) rfl ?_ rfl (canon_ag _ ts ?_ hsm ?_ _) (fun _ _ h => h) (fun _ => rfl)) ?_; (focus kernel_rfl))
        | (refine AWL.callV (f := 18) rfl rfl rfl rfl ?_ (Nat.le_of_ble_eq_true rfl) rfl (samesig_f _ _ ?_) ?_; (focus kernel_rfl))
        | (refine AWL.call (f := 18) rfl rfl rfl ?_ rfl (Nat.le_of_ble_eq_true rfl) rfl (samesig_f _ _ ?_) ?_; (focus kernel_rfl))
        | (refine DQ.step rfl rfl rfl rfl (QStep.call (f := 18) rfl ?_ rfl (samesig_f _ _ ?_) (fun _ _ h => h) (fun _ => rfl)) ?_; (focus kernel_rfl))
        | (refine DQ.yesC (QStep.call (f := 18) rfl ?_ rfl (samesig_f _ _ ?_) (fun _ _ h => h) (fun _ => rfl)) ?_; (focus kernel_rfl))
        | fail) <;> (first | ((first | show AWL _ _ _ _ _ | show DQ _ _ _ _ _ _ | show AW _ _ _ _ | (rintro _ _ ⟨rfl, rfl⟩; (try refine And.intro rfl ?_))); (try simp (disch := omega) only [NS, Nat.reduceBEq, Nat.reduceAdd, Nat.reduceMul, TY, slx, e1, e2, d1, d2, d3, d4, q1, q2])) | (focus ((first | exact trivial | omega | exact ld_nums i3 _ _ (by first | assumption | omega | (simp only [List.length_append, offsTo_len]; omega)) | (exact small_ten hsm (by omega)) | (show _ ≤ _; omega) | (simp only [List.length_take, List.length_drop, List.length_append, List.length_cons, List.length_nil]; omega) | ((repeat' (first | exact trivial | exact rfl | exact Nat.le_of_ble_eq_true rfl | refine And.intro ?_ ?_ | fail)); done) | ((try simp (disch := omega) only [NS, Nat.reduceBEq, Nat.reduceAdd, Nat.reduceMul, TY, slx, e1, e2, d1, d2, d3, d4, q1, q2]); (repeat' (first | exact trivial | exact rfl | exact ⟨_, _, rfl⟩ | exact ⟨_, rfl⟩ | exact Nat.le_of_ble_eq_true rfl | exact Nat.zero_lt_succ _ | omega | refine And.intro ?_ ?_ | fail)); done)); done))))
      | (refine AWL.guard2 rfl rfl rfl rfl rfl rfl ?_ ?_ <;> (intro hc; (try simp only [Bool.not_true, Bool.not_false] at hc); first | (cases hc; done) | ((try simp only [hc]); (try simp only [beq_iff_eq, bne_iff_ne, decide_eq_true_eq, decide_eq_false_iff_not, beq_eq_false_iff_ne, bne_eq_false_iff_eq, ne_eq, Bool.not_eq_true, Bool.not_eq_false, Bool.not_eq_eq_eq_not, Bool.not_true, Bool.not_false, Decidable.not_not, Int.not_lt, Int.not_le] at hc); (try (exfalso; omega)))))
      | (refine AWL.guard2 rfl rfl rfl rfl rfl rfl (fun hc => ?_) ?_; (cases hc; done))
      | (refine AW.drawn false hmix ?_ ?_; (focus kernel_rfl))
      | refine DQ.tail rfl ?_
      | (refine DQ.guard2 rfl rfl rfl rfl rfl rfl rfl ?_ ?_ <;> (intro hc; (try simp only [Bool.not_true, Bool.not_false] at hc); first | (cases hc; done) | ((try simp only [hc]); (try simp only [beq_iff_eq, bne_iff_ne, decide_eq_true_eq, decide_eq_false_iff_not, beq_eq_false_iff_ne, bne_eq_false_iff_eq, ne_eq, Bool.not_eq_true, Bool.not_eq_false, Bool.not_eq_eq_eq_not, Bool.not_true, Bool.not_false, Decidable.not_not, Int.not_lt, Int.not_le] at hc); (try (exfalso; omega)))))
      | (refine AW.cond rfl (fun hc => ?_) (fun hc => ?_) <;> first | (cases hc; done) | ((try simp only [beq_iff_eq, bne_iff_ne, decide_eq_true_eq, decide_eq_false_iff_not, beq_eq_false_iff_ne, bne_eq_false_iff_eq, ne_eq, Bool.not_eq_true, Bool.not_eq_false, Bool.not_eq_eq_eq_not, Bool.not_true, Bool.not_false, Decidable.not_not, Int.not_lt, Int.not_le] at hc); (try (exfalso; omega))))
      | (refine EndQ.mk rfl rfl rfl ?_ ?_ ?_; (focus (first | exact Or.inl rfl | exact Or.inr rfl)); (focus ((first | exact trivial | omega | exact ld_nums i3 _ _ (by first | assumption | omega | (simp only [List.length_append, offsTo_len]; omega)) | (exact small_ten hsm (by omega)) | (show _ ≤ _; omega) | (simp only [List.length_take, List.length_drop, List.length_append, List.length_cons, List.length_nil]; omega) | ((repeat' (first | exact trivial | exact rfl | exact Nat.le_of_ble_eq_true rfl | refine And.intro ?_ ?_ | fail)); done) | ((try simp (disch := omega) only [NS, Nat.reduceBEq, Nat.reduceAdd, Nat.reduceMul, TY, slx, e1, e2, d1, d2, d3, d4, q1, q2]); (repeat' (first | exact trivial | exact rfl | exact ⟨_, _, rfl⟩ | exact ⟨_, rfl⟩ | exact Nat.le_of_ble_eq_true rfl | exact Nat.zero_lt_succ _ | omega | refine And.intro ?_ ?_ | fail)); done)); done)); (try simp (disch := omega) only [NS, Nat.reduceBEq, Nat.reduceAdd, Nat.reduceMul, TY, slx, e1, e2, d1, d2, d3, d4, q1, q2]))
      | fail)
    all_goals first | exact ⟨trivial, trivial⟩ | exact ⟨rfl, trivial⟩)
set_option maxRecDepth 4000 in
set_option maxHeartbeats 1000000 in
theorem splitCanon_in (ts : List Sg) (hsm : small ts) (hlen : ts.length ≤ 1048576) (i k : Nat) (hi : i < ts.length) (hk : k < ts.length) :
    AC Try.prog 6 [.view ts.length 2 (sigC ts), .int .i64 i, .int .i64 k] (fun r m => r = .bool true ∧ m = []) := by
  have e1 := canon_in ts i hi
  have e2 := canon_in ts k hk
  have s1 := firstEq_spec ts i hi
  have s2 := firstEq_spec ts k hk
  have e3 := canon_in ts (firstEq ts (ts.getD i ([], []))) (by omega)
  rw [s1.2] at e3
  have hd1 := sig_drop ts i hi
  have hd2 := sig_drop ts k hk
  have hd3 := sig_drop ts (firstEq ts (ts.getD i ([], []))) (by omega)
  have hfi : firstEq ts (ts.getD i ([], [])) < ts.length := by omega
  refine AC.enter Try.func6 rfl (Nat.le_of_ble_eq_true rfl) ?_
  simp only [Try.f6]
  have hq : (((firstEq ts (ts.getD i ([], [])) : Nat) : Int) == ((firstEq ts (ts.getD k ([], [])) : Nat) : Int)) = decide (ts.getD i ([], []) = ts.getD k ([], [])) := by
    by_cases he : ts.getD i ([], []) = ts.getD k ([], [])
    · rw [he, decide_eq_true rfl]; exact beq_self_eq_true _
    · rw [decide_eq_false he]
      refine beq_eq_false_iff_ne.2 fun e => he ?_
      have e' : firstEq ts (ts.getD i ([], [])) = firstEq ts (ts.getD k ([], [])) := by omega
      rw [← s1.2, ← s2.2, e']
  repeat' (first
    | refine AW.seq ?_
    | refine AW.block ?_
    | refine AW.region ?_
    | (refine AW.skip ?_; (try simp only [thenQ, blockQ, ↓reduceIte, Nat.reduceEqDiff]))
    | (refine AW.ret ?_; (try simp only [thenQ, blockQ, ↓reduceIte, Nat.reduceEqDiff]))
    | (refine AW.exit ?_; (try simp only [thenQ, blockQ, ↓reduceIte, Nat.reduceEqDiff]))
    | (refine AWL.nil ?_; (try simp only [thenQ, blockQ, ↓reduceIte, Nat.reduceEqDiff]))
    | (refine DQ.nil ?_; (try simp only [thenQ, blockQ, ↓reduceIte, Nat.reduceEqDiff]))
    | ((first
      | (refine AWL.op (sl := SL) rfl rfl ?_ ?_)
      | (refine DQ.op rfl rfl rfl rfl rfl ?_ ?_)
      | (refine DQ.yes rfl ?_ ?_)
      | (refine DQ.step rfl rfl rfl rfl (QStep.assign rfl) ?_)
      | (refine AWL.frzA rfl rfl ?_)
      | (refine AWL.callV (f := 9) rfl rfl rfl rfl ?_ (Nat.le_of_ble_eq_true rfl) rfl (awake_ok) ?_; (focus kernel_rfl))
      | (refine AWL.call (f := 9) rfl rfl rfl ?_ rfl (Nat.le_of_ble_eq_true rfl) rfl (awake_ok) ?_; (focus kernel_rfl))
      | (refine DQ.step rfl rfl rfl rfl (QStep.call (f := 9) rfl ?_ rfl (awake_ok) (fun _ _ h => h) (fun _ => rfl)) ?_; (focus kernel_rfl))
      | (refine DQ.yesC (QStep.call (f := 9) rfl ?_ rfl (awake_ok) (fun _ _ h => h) (fun _ => rfl)) ?_; (focus kernel_rfl))
      | (refine AWL.callV (f := 20) rfl rfl rfl rfl ?_ (Nat.le_of_ble_eq_true rfl) rfl (canon_ag _ ts ?_ hsm ?_ _) ?_; (focus kernel_rfl))
      | (refine AWL.call (f := 20) rfl rfl rfl ?_ rfl (Nat.le_of_ble_eq_true rfl) rfl (canon_ag _ ts ?_ hsm ?_ _) ?_; (focus kernel_rfl))
      | (refine DQ.step rfl rfl rfl rfl (QStep.call (f := 20) rfl ?_ rfl (canon_ag _ ts ?_ hsm ?_ _) (fun _ _ h => h) (fun _ => rfl)) ?_; (focus kernel_rfl))
      | (refine DQ.yesC (QStep.call (f := 20) rfl ?_ rfl (canon_ag _ ts ?_ hsm ?_ _) (fun _ _ h => h) (fun _ => rfl)) ?_; (focus kernel_rfl))
      | (refine AWL.callV (f := 18) rfl rfl rfl rfl ?_ (Nat.le_of_ble_eq_true rfl) rfl (samesig_f _ _ ?_) ?_; (focus kernel_rfl))
      | (refine AWL.call (f := 18) rfl rfl rfl ?_ rfl (Nat.le_of_ble_eq_true rfl) rfl (samesig_f _ _ ?_) ?_; (focus kernel_rfl))
      | (refine DQ.step rfl rfl rfl rfl (QStep.call (f := 18) rfl ?_ rfl (samesig_f _ _ ?_) (fun _ _ h => h) (fun _ => rfl)) ?_; (focus kernel_rfl))
      | (refine DQ.yesC (QStep.call (f := 18) rfl ?_ rfl (samesig_f _ _ ?_) (fun _ _ h => h) (fun _ => rfl)) ?_; (focus kernel_rfl))
      | fail) <;> (first | ((first | show AWL _ _ _ _ _ | show DQ _ _ _ _ _ _ | show AW _ _ _ _ | (rintro _ _ ⟨rfl, rfl⟩; (try refine And.intro rfl ?_))); (try simp (disch := omega) only [NS, Nat.reduceBEq, Nat.reduceAdd, Nat.reduceMul, TY, slx, e1, e2, e3, hd1, hd2, hd3, bne_self_eq_false])) | (focus ((first | exact trivial | omega | exact ld_nums i3 _ _ (by first | assumption | omega | (simp only [List.length_append, offsTo_len]; omega)) | (exact small_ten hsm (by omega)) | (show _ ≤ _; omega) | (simp only [List.length_take, List.length_drop, List.length_append, List.length_cons, List.length_nil]; omega) | ((repeat' (first | exact trivial | exact rfl | exact Nat.le_of_ble_eq_true rfl | refine And.intro ?_ ?_ | fail)); done) | ((try simp (disch := omega) only [NS, Nat.reduceBEq, Nat.reduceAdd, Nat.reduceMul, TY, slx, e1, e2, e3, hd1, hd2, hd3, bne_self_eq_false]); (repeat' (first | exact trivial | exact rfl | exact ⟨_, _, rfl⟩ | exact ⟨_, rfl⟩ | exact Nat.le_of_ble_eq_true rfl | exact Nat.zero_lt_succ _ | omega | refine And.intro ?_ ?_ | fail)); done)); done))))
    | (refine AWL.guard2 rfl rfl rfl rfl rfl rfl ?_ ?_ <;> (intro hc; (try simp only [Bool.not_true, Bool.not_false] at hc); first | (cases hc; done) | ((try simp only [hc]); (try simp only [beq_iff_eq, bne_iff_ne, decide_eq_true_eq, decide_eq_false_iff_not, beq_eq_false_iff_ne, bne_eq_false_iff_eq, ne_eq, Bool.not_eq_true, Bool.not_eq_false, Bool.not_eq_eq_eq_not, Bool.not_true, Bool.not_false, Decidable.not_not, Int.not_lt, Int.not_le] at hc); (try (exfalso; omega)))))
    | (refine AWL.guard2 rfl rfl rfl rfl rfl rfl (fun hc => ?_) ?_; (cases hc; done))
    | (refine AW.drawn false hmix ?_ ?_; (focus kernel_rfl))
    | refine DQ.tail rfl ?_
    | (refine DQ.guard2 rfl rfl rfl rfl rfl rfl rfl ?_ ?_ <;> (intro hc; (try simp only [Bool.not_true, Bool.not_false] at hc); first | (cases hc; done) | ((try simp only [hc]); (try simp only [beq_iff_eq, bne_iff_ne, decide_eq_true_eq, decide_eq_false_iff_not, beq_eq_false_iff_ne, bne_eq_false_iff_eq, ne_eq, Bool.not_eq_true, Bool.not_eq_false, Bool.not_eq_eq_eq_not, Bool.not_true, Bool.not_false, Decidable.not_not, Int.not_lt, Int.not_le] at hc); (try (exfalso; omega)))))
    | (refine AW.cond rfl (fun hc => ?_) (fun hc => ?_) <;> first | (cases hc; done) | ((try simp only [beq_iff_eq, bne_iff_ne, decide_eq_true_eq, decide_eq_false_iff_not, beq_eq_false_iff_ne, bne_eq_false_iff_eq, ne_eq, Bool.not_eq_true, Bool.not_eq_false, Bool.not_eq_eq_eq_not, Bool.not_true, Bool.not_false, Decidable.not_not, Int.not_lt, Int.not_le] at hc); (try (exfalso; omega))))
    | (refine EndQ.mk rfl rfl rfl ?_ ?_ ?_; (focus (first | exact Or.inl rfl | exact Or.inr rfl)); (focus ((first | exact trivial | omega | exact ld_nums i3 _ _ (by first | assumption | omega | (simp only [List.length_append, offsTo_len]; omega)) | (exact small_ten hsm (by omega)) | (show _ ≤ _; omega) | (simp only [List.length_take, List.length_drop, List.length_append, List.length_cons, List.length_nil]; omega) | ((repeat' (first | exact trivial | exact rfl | exact Nat.le_of_ble_eq_true rfl | refine And.intro ?_ ?_ | fail)); done) | ((try simp (disch := omega) only [NS, Nat.reduceBEq, Nat.reduceAdd, Nat.reduceMul, TY, slx, e1, e2, e3, hd1, hd2, hd3, bne_self_eq_false]); (repeat' (first | exact trivial | exact rfl | exact ⟨_, _, rfl⟩ | exact ⟨_, rfl⟩ | exact Nat.le_of_ble_eq_true rfl | exact Nat.zero_lt_succ _ | omega | refine And.intro ?_ ?_ | fail)); done)); done)); (try simp (disch := omega) only [NS, Nat.reduceBEq, Nat.reduceAdd, Nat.reduceMul, TY, slx, e1, e2, e3, hd1, hd2, hd3, bne_self_eq_false]))
    | fail)
  · refine ⟨?_, trivial⟩
    rw [s1.2, decide_eq_true rfl]
  · rename_i hn
    first | exact absurd hq hc | (exfalso; simp_all; done)
end Go.Proofs.Ytbdmieljkgcpcaa
