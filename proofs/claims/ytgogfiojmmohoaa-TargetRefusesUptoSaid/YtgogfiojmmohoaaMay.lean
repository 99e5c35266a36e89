/- target.may. -/
import Derived.Test.YtgogfiojmmohoaaV5
import Derived.Test.YtgogfiojmmohoaaScalar
namespace Go.Proofs.Ytgogfiojmmohoaa
set_option linter.unusedSimpArgs false
set_option linter.unusedVariables false
open Go Go.Abs
attribute [local irreducible] AW AWL AC DQ IntKind.wrap

theorem may_cases (nF nS nC : Nat) (i l at_ op a n : Int) :
    (op = 12 ∧ mayS nF nS nC i l at_ (op, a, n) = decide (0 ≤ a ∧ a < nC)) ∨ (op = 13 ∧ mayS nF nS nC i l at_ (op, a, n) = decide (0 ≤ a ∧ a < nC)) ∨ (op = 14 ∧ mayS nF nS nC i l at_ (op, a, n) = decide (0 ≤ a ∧ a < nC - at_ - 1)) ∨
    (op = 16 ∧ mayS nF nS nC i l at_ (op, a, n) = decide (0 ≤ a ∧ a < nF)) ∨ (op = 17 ∧ mayS nF nS nC i l at_ (op, a, n) = decide (0 ≤ a ∧ a < nS)) ∨
    (op = 32 ∧ mayS nF nS nC i l at_ (op, a, n) = decide (0 ≤ a ∧ a < i + l)) ∨ (op = 33 ∧ mayS nF nS nC i l at_ (op, a, n) = decide (0 ≤ a ∧ a < i + l)) ∨ (op = 34 ∧ mayS nF nS nC i l at_ (op, a, n) = decide (0 ≤ a ∧ a < i + l)) ∨
    (op = 35 ∧ mayS nF nS nC i l at_ (op, a, n) = decide (0 ≤ a)) ∨ (op = 36 ∧ mayS nF nS nC i l at_ (op, a, n) = decide (0 ≤ a)) ∨ (op = 256 ∧ mayS nF nS nC i l at_ (op, a, n) = decide (0 ≤ a ∧ a ≤ 1048576 ∧ n ≤ 1048576)) ∨
    ((op ≠ 12 ∧ op ≠ 13 ∧ op ≠ 14 ∧ op ≠ 16 ∧ op ≠ 17 ∧ op ≠ 32 ∧ op ≠ 33 ∧ op ≠ 34 ∧ op ≠ 35 ∧ op ≠ 36 ∧ op ≠ 256) ∧ mayS nF nS nC i l at_ (op, a, n) = scS op) := by
  by_cases h1 : op = 12
  · subst h1; exact .inl ⟨rfl, rfl⟩
  by_cases h2 : op = 13
  · subst h2; exact .inr (.inl ⟨rfl, rfl⟩)
  by_cases h3 : op = 14
  · subst h3; exact .inr (.inr (.inl ⟨rfl, rfl⟩))
  by_cases h4 : op = 16
  · subst h4; exact .inr (.inr (.inr (.inl ⟨rfl, rfl⟩)))
  by_cases h5 : op = 17
  · subst h5; exact .inr (.inr (.inr (.inr (.inl ⟨rfl, rfl⟩))))
  by_cases h6 : op = 32
  · subst h6; exact .inr (.inr (.inr (.inr (.inr (.inl ⟨rfl, rfl⟩)))))
  by_cases h7 : op = 33
  · subst h7; exact .inr (.inr (.inr (.inr (.inr (.inr (.inl ⟨rfl, rfl⟩))))))
  by_cases h8 : op = 34
  · subst h8; exact .inr (.inr (.inr (.inr (.inr (.inr (.inr (.inl ⟨rfl, rfl⟩)))))))
  by_cases h9 : op = 35
  · subst h9; exact .inr (.inr (.inr (.inr (.inr (.inr (.inr (.inr (.inl ⟨rfl, rfl⟩))))))))
  by_cases h10 : op = 36
  · subst h10; exact .inr (.inr (.inr (.inr (.inr (.inr (.inr (.inr (.inr (.inl ⟨rfl, rfl⟩)))))))))
  by_cases h11 : op = 256
  · subst h11; exact .inr (.inr (.inr (.inr (.inr (.inr (.inr (.inr (.inr (.inr (.inl ⟨rfl, rfl⟩))))))))))
  refine .inr (.inr (.inr (.inr (.inr (.inr (.inr (.inr (.inr (.inr (.inr ⟨⟨h1, h2, h3, h4, h5, h6, h7, h8, h9, h10, h11⟩, ?_⟩))))))))))
  unfold mayS
  simp only
  rw [if_neg (by omega), if_neg (by omega), if_neg (by omega), if_neg (by omega), if_neg (by omega), if_neg (by omega), if_neg (by omega)]
set_option maxHeartbeats 6400000 in
theorem may_walk (sg : List Sg) (fs : List Fn) (h s i l o : Int) (cs : List Cl) (ms : List Int) (r : List V) (at_ : Nat) (op a n : Int) (hs : sg.length ≤ 2000000) (hf : fs.length ≤ 2000000) (hc : cs.length ≤ 2000000) (hi : 0 ≤ i ∧ i ≤ 2000000) (hl : 0 ≤ l ∧ l ≤ 4096) (hat : at_ < cs.length) :
    AC Try.prog 24 [.fagg [.view sg.length 2 (sigC sg), .view fs.length 7 (funC fs)], .vptr (.int .i64 h :: .int .i64 s :: .int .i64 i :: .int .i64 o :: .int .i64 l :: .view cs.length 3 (celC cs) :: .view ms.length 1 (nums .i64 ms) :: r), .int .i64 at_, .fagg [.int .i64 op, .int .i64 a, .int .u64 n]]
      (fun r m => r = .bool (mayS fs.length sg.length cs.length i l at_ (op, a, n)) ∧ m = []) := by
  have e1 : IntKind.i64.wrap (i + l) = i + l := wrap64_id _ (by omega) (by omega)
  have e2 : IntKind.i64.wrap ((cs.length : Int) - at_) = (cs.length : Int) - at_ := wrap64_id _ (by omega) (by omega)
  have e3 : IntKind.i64.wrap ((cs.length : Int) - at_ - 1) = (cs.length : Int) - at_ - 1 := wrap64_id _ (by omega) (by omega)
  have hmc := may_cases fs.length sg.length cs.length i l at_ op a n
  generalize mayS fs.length sg.length cs.length i l at_ (op, a, n) = b at hmc
  rcases hmc with ⟨rfl, rfl⟩ | ⟨rfl, rfl⟩ | ⟨rfl, rfl⟩ | ⟨rfl, rfl⟩ | ⟨rfl, rfl⟩ | ⟨rfl, rfl⟩ | ⟨rfl, rfl⟩ | ⟨rfl, rfl⟩ | ⟨rfl, rfl⟩ | ⟨rfl, rfl⟩ | ⟨rfl, rfl⟩ | ⟨hne, rfl⟩
  all_goals (
    refine AC.enter Try.func24 rfl (Nat.le_of_ble_eq_true rfl) ?_
    simp only [Try.f24]
    have hchk : True := by simp only [TY, SLS, List.set_cons_zero, List.set_cons_succ, sl27, sl25, sl36, sl3, sl4, sl5, sl9, nums_length, byts_V, byts_len, e1, e2, e3]
    repeat' (first
      | ((with_reducible show AWL _ _ _ _ _); first
          | (refine AWL.opN (sl := SL) rfl rfl rfl trivial ?_; (try (conv => arg -1; simp (disch := omega) only [NSX, St.keepS, Nat.reduceBEq, Nat.reduceAdd, Nat.reduceMul, Int.reduceToNat, Nat.reduceSub, TY, SLS, List.set_cons_zero, List.set_cons_succ, sl27, sl25, sl36, sl3, sl4, sl5, sl9, nums_length, byts_V, byts_len, e1, e2, e3])))
          | (refine AWL.nil ?_; (repeat (first | refine QEq.mp (by assumption) ?_ | simp only [thenQ, Go.Abs.blockQ, ↓reduceIte, Nat.reduceEqDiff])))
          | ((first | (refine AWL.op (sl := SL) rfl rfl ?_ ?_) | ((show AWL _ _ ({ dst := _, op := _, type := _, pos := _, after := _, guard := none } :: _) _ _); refine AWL.frzA rfl rfl ?_) | (refine AWL.callV (f := 15) rfl rfl rfl rfl ?_ (Nat.le_of_ble_eq_true rfl) rfl (scalar_ok _) ?_; (focus kernel_rfl)) | (refine AWL.call (f := 15) rfl rfl rfl ?_ rfl (Nat.le_of_ble_eq_true rfl) rfl (scalar_ok _) ?_; (focus kernel_rfl))) <;> (try ((first | show AWL _ _ _ _ _ | show AW _ _ _ _ | show DQ _ _ _ _ _ _ | (rintro _ _ ⟨rfl, rfl⟩; (try refine And.intro rfl ?_))); (try (conv => arg -1; simp (disch := omega) only [NSX, St.keepS, Nat.reduceBEq, Nat.reduceAdd, Nat.reduceMul, Int.reduceToNat, Nat.reduceSub, TY, SLS, List.set_cons_zero, List.set_cons_succ, sl27, sl25, sl36, sl3, sl4, sl5, sl9, nums_length, byts_V, byts_len, e1, e2, e3])))))
          | (refine AWL.guard2 rfl rfl rfl rfl rfl rfl ?_ ?_ <;> (intro hc; (try simp only [Bool.not_true, Bool.not_false] at hc); first | (cases hc; done) | ((try simp only [hc]); (try simp only [beq_iff_eq, bne_iff_ne, decide_eq_true_eq, decide_eq_false_iff_not, beq_eq_false_iff_ne, bne_eq_false_iff_eq, ne_eq, Bool.not_eq_true, Bool.not_eq_false, Bool.not_eq_eq_eq_not, Bool.not_true, Bool.not_false, Decidable.not_not, Int.not_lt, Int.not_le, decide_eq_decide, not_true_eq_false] at hc); (try (exfalso; omega)); (try (guard_hyp hc : True; clear hc)))) <;> (try (first | (with_reducible show AWL _ _ _ _ (St.put _ _ _))); (try (conv => arg -1; simp (disch := omega) only [NSX, St.keepS, Nat.reduceBEq, Nat.reduceAdd, Nat.reduceMul, Int.reduceToNat, Nat.reduceSub, TY, SLS, List.set_cons_zero, List.set_cons_succ, sl27, sl25, sl36, sl3, sl4, sl5, sl9, nums_length, byts_V, byts_len, e1, e2, e3]))))
          | (refine AWL.guard2 rfl rfl rfl rfl rfl rfl (fun hc => ?_) ?_; (cases hc; done))
          | (refine AWL.guardU rfl rfl rfl rfl rfl rfl ?_; (try (conv => arg -1; simp (disch := omega) only [NSX, St.keepS, Nat.reduceBEq, Nat.reduceAdd, Nat.reduceMul, Int.reduceToNat, Nat.reduceSub, TY, SLS, List.set_cons_zero, List.set_cons_succ, sl27, sl25, sl36, sl3, sl4, sl5, sl9, nums_length, byts_V, byts_len, e1, e2, e3]))))
      | ((with_reducible show DQ _ _ _ _ _ _); first
          | ((first | (refine DQ.op rfl rfl rfl rfl rfl ?_ ?_) | (refine DQ.step rfl rfl rfl rfl (QStep.assign rfl) ?_) | (refine DQ.step rfl rfl rfl rfl (QStep.call (f := 15) rfl ?_ rfl (scalar_ok _) (fun _ _ h => h) (fun _ => rfl)) ?_; (focus kernel_rfl))) <;> (try ((first | show AWL _ _ _ _ _ | show AW _ _ _ _ | show DQ _ _ _ _ _ _ | (rintro _ _ ⟨rfl, rfl⟩; (try refine And.intro rfl ?_))); (try (conv => arg -1; simp (disch := omega) only [NSX, St.keepS, Nat.reduceBEq, Nat.reduceAdd, Nat.reduceMul, Int.reduceToNat, Nat.reduceSub, TY, SLS, List.set_cons_zero, List.set_cons_succ, sl27, sl25, sl36, sl3, sl4, sl5, sl9, nums_length, byts_V, byts_len, e1, e2, e3])))))
          | (refine DQ.nil ?_; (repeat (first | refine QEq.mp (by assumption) ?_ | simp only [thenQ, Go.Abs.blockQ, ↓reduceIte, Nat.reduceEqDiff])))
          | (refine DQ.guard2 rfl rfl rfl rfl rfl rfl rfl ?_ ?_ <;> (intro hc; (try simp only [Bool.not_true, Bool.not_false] at hc); first | (cases hc; done) | ((try simp only [hc]); (try simp only [beq_iff_eq, bne_iff_ne, decide_eq_true_eq, decide_eq_false_iff_not, beq_eq_false_iff_ne, bne_eq_false_iff_eq, ne_eq, Bool.not_eq_true, Bool.not_eq_false, Bool.not_eq_eq_eq_not, Bool.not_true, Bool.not_false, Decidable.not_not, Int.not_lt, Int.not_le, decide_eq_decide, not_true_eq_false] at hc); (try (exfalso; omega)); (try (guard_hyp hc : True; clear hc)))) <;> (try (first | (with_reducible show AWL _ _ _ _ (St.put _ _ _))); (try (conv => arg -1; simp (disch := omega) only [NSX, St.keepS, Nat.reduceBEq, Nat.reduceAdd, Nat.reduceMul, Int.reduceToNat, Nat.reduceSub, TY, SLS, List.set_cons_zero, List.set_cons_succ, sl27, sl25, sl36, sl3, sl4, sl5, sl9, nums_length, byts_V, byts_len, e1, e2, e3]))))
          | (refine DQ.guardU rfl rfl rfl rfl rfl rfl rfl ?_; (try (conv => arg -1; simp (disch := omega) only [NSX, St.keepS, Nat.reduceBEq, Nat.reduceAdd, Nat.reduceMul, Int.reduceToNat, Nat.reduceSub, TY, SLS, List.set_cons_zero, List.set_cons_succ, sl27, sl25, sl36, sl3, sl4, sl5, sl9, nums_length, byts_V, byts_len, e1, e2, e3])))
          | refine DQ.tail rfl ?_)
      | ((with_reducible show True); first
          | exact trivial)
      | ((with_reducible show AW _ _ _ _); first
          | (refine AW.seqQ ?_; intro Qn hQn; (try have hPn := QEq.pan hQn (panOk_then (by (first | assumption | exact panOk_end | exact panOk_endM | exact panOk_then (by first | assumption | exact panOk_end | exact panOk_endM) | exact panOk_block (by first | assumption | exact panOk_end | exact panOk_endM))))))
          | (refine AW.blockQ ?_; intro Qn hQn; (try have hPn := QEq.pan hQn (panOk_block (by (first | assumption | exact panOk_end | exact panOk_endM | exact panOk_then (by first | assumption | exact panOk_end | exact panOk_endM) | exact panOk_block (by first | assumption | exact panOk_end | exact panOk_endM))))))
          | ((show AW _ (.region _ _ false) _ _); refine AW.keepS [0, 1, 2, 3, 4, 7, 8, 10] ?_; (try (conv => arg -1; simp (disch := omega) only [NSX, St.keepS, Nat.reduceBEq, Nat.reduceAdd, Nat.reduceMul, Int.reduceToNat, Nat.reduceSub, TY, SLS, List.set_cons_zero, List.set_cons_succ, sl27, sl25, sl36, sl3, sl4, sl5, sl9, nums_length, byts_V, byts_len, e1, e2, e3])); refine AW.region ?_)
          | ((first | refine AW.skip ?_ | refine AW.ret ?_ | refine AW.exit ?_); (repeat (first | refine QEq.mp (by assumption) ?_ | simp only [thenQ, Go.Abs.blockQ, ↓reduceIte, Nat.reduceEqDiff])))
          | (refine AW.cond rfl (fun hc => ?_) (fun hc => ?_) <;> first | (cases hc; done) | ((try simp only [beq_iff_eq, bne_iff_ne, decide_eq_true_eq, decide_eq_false_iff_not, beq_eq_false_iff_ne, bne_eq_false_iff_eq, ne_eq, Bool.not_eq_true, Bool.not_eq_false, Bool.not_eq_eq_eq_not, Bool.not_true, Bool.not_false, Decidable.not_not, Int.not_lt, Int.not_le, decide_eq_decide, not_true_eq_false] at hc); (try (exfalso; omega)); (try (guard_hyp hc : True; clear hc))))
          | ((show AW _ (.region _ _ true) _ _); refine AW.keepS [0, 1, 2, 3, 4, 7, 8, 10] ?_; (try (conv => arg -1; simp (disch := omega) only [NSX, St.keepS, Nat.reduceBEq, Nat.reduceAdd, Nat.reduceMul, Int.reduceToNat, Nat.reduceSub, TY, SLS, List.set_cons_zero, List.set_cons_succ, sl27, sl25, sl36, sl3, sl4, sl5, sl9, nums_length, byts_V, byts_len, e1, e2, e3])); refine AW.drawn false hmix ?_ ?_; (focus kernel_rfl)))
      | ((first | (refine DQ.yes rfl ?_ ?_) | (refine DQ.yesC (QStep.call (f := 15) rfl ?_ rfl (scalar_ok _) (fun _ _ h => h) (fun _ => rfl)) ?_; (focus kernel_rfl))) <;> (try ((first | show AWL _ _ _ _ _ | show AW _ _ _ _ | show DQ _ _ _ _ _ _ | (rintro _ _ ⟨rfl, rfl⟩; (try refine And.intro rfl ?_))); (try (conv => arg -1; simp (disch := omega) only [NSX, St.keepS, Nat.reduceBEq, Nat.reduceAdd, Nat.reduceMul, Int.reduceToNat, Nat.reduceSub, TY, SLS, List.set_cons_zero, List.set_cons_succ, sl27, sl25, sl36, sl3, sl4, sl5, sl9, nums_length, byts_V, byts_len, e1, e2, e3])))))
      | ((refine EndQ.mk rfl rfl rfl ?_ ?_ ?_; (focus (first | exact Or.inl rfl | exact Or.inr rfl))) <;> (try simp (disch := omega) only [NSX, St.keepS, Nat.reduceBEq, Nat.reduceAdd, Nat.reduceMul, Int.reduceToNat, Nat.reduceSub, TY, SLS, List.set_cons_zero, List.set_cons_succ, sl27, sl25, sl36, sl3, sl4, sl5, sl9, nums_length, byts_V, byts_len, e1, e2, e3]))
      | (focus ((first | exact trivial | omega | (refine And.intro (by kernel_rfl) (And.intro ⟨_, (by first | exact nums_ints _ _ | rfl), (by first | exact nums_ints _ _ | rfl)⟩ (And.intro ?_ ?_)) <;> (first | rfl | assumption | (simp only [nums_length]; omega) | omega)) | (refine And.intro ?_ (And.intro ?_ ?_); (focus kernel_rfl); (focus kernel_rfl); (focus kernel_rfl)) | assumption | ((first | refine ld_nums i3 _ _ ?_ | refine ld_nums i5 _ _ ?_ | refine at_nums i3 _ _ ?_ | refine at_nums i5 _ _ ?_); first | assumption | omega | (simp only [List.length_append]; omega)) | (show _ ≤ _; omega) | (simp only [List.length_take, List.length_drop, List.length_append, List.length_cons, List.length_nil]; omega) | ((repeat' (first | exact trivial | exact rfl | exact Nat.le_of_ble_eq_true rfl | refine And.intro ?_ ?_ | fail)); done) | ((try simp (disch := omega) only [NSX, St.keepS, Nat.reduceBEq, Nat.reduceAdd, Nat.reduceMul, Int.reduceToNat, Nat.reduceSub, TY, SLS, List.set_cons_zero, List.set_cons_succ, sl27, sl25, sl36, sl3, sl4, sl5, sl9, nums_length, byts_V, byts_len, e1, e2, e3]); (repeat' (first | exact trivial | exact rfl | exact ⟨_, _, rfl⟩ | exact ⟨_, rfl⟩ | exact Nat.le_of_ble_eq_true rfl | exact Nat.zero_lt_succ _ | omega | (simp only [nums_length, byts_len] at *; omega) | refine And.intro ?_ ?_ | fail)); done)); done))
      | fail)
    all_goals first
      | exact ⟨rfl, trivial⟩
      | exact ⟨congrArg V.bool (decide_eq_decide.2 (by omega)), trivial⟩
      | exact ⟨congrArg V.bool (decide_eq_false (by omega)).symm, trivial⟩
      | exact ⟨congrArg V.bool (decide_eq_true (by omega)).symm, trivial⟩
      | trace_state
    )
theorem may_at (nS nF nC nM : Nat) (sg : List Sg) (fs : List Fn) (h s i l o : Int) (cs : List Cl) (ms : List Int) (r : List V) (at_ : Nat) (op a n : Int) (e1 : nS = sg.length) (e2 : nF = fs.length) (e3 : nC = cs.length) (e4 : nM = ms.length) (hs : sg.length ≤ 2000000) (hf : fs.length ≤ 2000000) (hc : cs.length ≤ 2000000) (hi : 0 ≤ i ∧ i ≤ 2000000) (hl : 0 ≤ l ∧ l ≤ 4096) (hat : at_ < cs.length) :
    AC Try.prog 24 [.fagg [.view nS 2 (sigC sg), .view nF 7 (funC fs)], .vptr (.int .i64 h :: .int .i64 s :: .int .i64 i :: .int .i64 o :: .int .i64 l :: .view nC 3 (celC cs) :: .view nM 1 (nums .i64 ms) :: r), .int .i64 at_, .fagg [.int .i64 op, .int .i64 a, .int .u64 n]]
      (fun r m => r = .bool (mayS fs.length sg.length cs.length i l at_ (op, a, n)) ∧ m = []) := by
  subst e1 e2 e3 e4; exact may_walk sg fs h s i l o cs ms r at_ op a n hs hf hc hi hl hat
end Go.Proofs.Ytgogfiojmmohoaa
