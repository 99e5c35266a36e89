/- LebCuts. -/
import Derived.Test.YticidhkilfkgbaaV4
import Derived.Test.YticidhkilfkgbaaAwake
import Derived.Test.YticidhkilfkgbaaLSigned
import Derived.Test.YticidhkilfkgbaaPads
namespace Go.Proofs.Yticidhkilfkgbaa
set_option linter.unusedSimpArgs false
set_option linter.unusedVariables false
open Go Go.Abs
attribute [local irreducible] AW AWL AC DQ IntKind.wrap

theorem putS_pos (n : Int) : 1 ≤ (putS n).length := by
  obtain ⟨s, h, _⟩ := putS_pad n; rw [h, padU_len]; omega
theorem putU_pos (n : Nat) : 1 ≤ (putU n).length := by
  obtain ⟨s, h, _⟩ := putU_pad n; rw [h, padU_len]; omega
theorem bytes_take' {l : List Int} (h : bytes l) (n : Nat) : bytes (l.take n) := fun x hx => h x (List.mem_of_mem_take hx)
set_option maxRecDepth 4000 in
set_option maxHeartbeats 4000000 in
theorem lebCuts_ok (n : Nat) (hn : n < 2 ^ 64) (cut : Int) :
    AC Try.prog 7 [.int .u64 n, .int .i64 cut] (fun r m => r = .bool true ∧ m = []) := by
  obtain ⟨s, hs', hs⟩ : ∃ s : Int, IntKind.i64.wrap (n : Int) = s ∧ (-2 ^ 63 ≤ s ∧ s < 2 ^ 63) := ⟨_, rfl, by rw [IntKind.wrap_i64]; omega⟩
  have hlu := putU_len 9 n (by simpa using Nat.lt_of_lt_of_le hn (by decide))
  have hls := putS_len 9 s (by simp only [Nat.reduceMul, Int.reducePow, Int.reduceMul]; omega)
  have hpu := putU_pos n
  have hps := putS_pos s
  have e1 : IntKind.u64.wrap ((putU n).length : Int) = ((putU n).length : Int) := wrap_in rfl (by omega) (by show _ < (18446744073709551616 : Int); omega)
  have e2 : IntKind.u64.wrap ((putS s).length : Int) = ((putS s).length : Int) := wrap_in rfl (by omega) (by show _ < (18446744073709551616 : Int); omega)
  obtain ⟨c, hc', hc0⟩ : ∃ c : Int, IntKind.u64.wrap cut = c ∧ 0 ≤ c := ⟨_, rfl, by rw [IntKind.wrap_u64]; omega⟩
  have m1 := Int.emod_nonneg c (by omega : ((putU n).length : Int) ≠ 0)
  have m2 := Int.emod_lt_of_pos c (by omega : (0 : Int) < ((putU n).length : Int))
  have m3 := Int.emod_nonneg c (by omega : ((putS s).length : Int) ≠ 0)
  have m4 := Int.emod_lt_of_pos c (by omega : (0 : Int) < ((putS s).length : Int))
  obtain ⟨k, hk⟩ : ∃ k : Nat, c % ((putU n).length : Int) = k := ⟨_, (Int.toNat_of_nonneg m1).symm⟩
  obtain ⟨j, hj⟩ : ∃ j : Nat, c % ((putS s).length : Int) = j := ⟨_, (Int.toNat_of_nonneg m3).symm⟩
  have e3 : IntKind.i64.wrap (c.tmod ((putU n).length : Int)) = k := by rw [Int.tmod_eq_emod_of_nonneg hc0, hk]; exact wrap64_id _ (by omega) (by omega)
  have e4 : IntKind.i64.wrap (c.tmod ((putS s).length : Int)) = j := by rw [Int.tmod_eq_emod_of_nonneg hc0, hj]; exact wrap64_id _ (by omega) (by omega)
  have e5 : IntKind.i64.wrap (7 * (k : Int)) = 7 * k := wrap64_id _ (by omega) (by omega)
  have e6 : IntKind.u64.wrap (7 * (k : Int)) = 7 * k := wrap_in rfl (by omega) (by show _ < (18446744073709551616 : Int); omega)
  have e7 : (n : Int).fdiv (2 ^ min (7 * (k : Int)).toNat IntKind.u64.bits) = ((n / 2 ^ (7 * k) : Nat) : Int) := by
    rw [show min (7 * (k : Int)).toNat IntKind.u64.bits = 7 * k from by rw [Nat.min_eq_left (by show _ ≤ 64; omega)]; omega]
    rw [fdiv_pow _ _ (by omega)]; push_cast; rfl
  have hU1 := u_at k ((putU n).take k) (by rw [List.length_take]; omega) (bytes_take' (putU_bytes n) k) (by rw [List.length_take]; omega) 0 64
  rw [show uSpec ((putU n).take k) 0 64 = (0, 0, 5) from by
    rw [uSpec, if_neg (by rw [List.length_take]; omega)]
    exact uRd_cut 64 k n 0 0 0 (by omega) (by omega)] at hU1
  have hS1 := s_at j ((putS s).take j) (by rw [List.length_take]; omega) (bytes_take' (putS_bytes s) j) (by rw [List.length_take]; omega) 0 64
  rw [show sSpec ((putS s).take j) 0 64 = (0, 0, 5) from by
    rw [sSpec, if_neg (by rw [List.length_take]; omega)]
    exact sRd_cut 64 j s 0 0 0 (by omega) (by omega)] at hS1
  have hU2 := u_at (putU n).length (putU n) rfl (putU_bytes n) (by omega) k 64
  rw [show uSpec (putU n) k 64 = (((n / 2 ^ (7 * k) : Nat) : Int), (((putU n).length : Nat) : Int), 0) from by
    rw [uSpec, if_neg (by omega), Int.toNat_natCast]
    have hd := putU_drop k n (by omega)
    have hl : (putU (n / 2 ^ (7 * k))).length = (putU n).length - k := by rw [← hd, List.length_drop]
    have hr := uRd_put 64 [] (n / 2 ^ (7 * k)) 0 0 k (by omega)
    rw [List.append_nil, ← hd, show 7 * 0 = 0 from rfl] at hr
    rw [hr, hd, hl, if_pos (show n / 2 ^ (7 * k) < 2 ^ (64 - 7 * ((0 : Nat) : Int)).toNat from Nat.lt_of_le_of_lt (Nat.div_le_self _ _) hn)]
    refine Prod.ext ?_ (Prod.ext ?_ rfl)
    · simp
    · simp only; omega] at hU2
  refine AC.enter Try.func7 rfl (Nat.le_of_ble_eq_true rfl) ?_
  simp only [Try.f7]
  repeat' (first
    | refine AW.seq ?_
    | refine AW.block ?_
    | refine AW.region ?_
    | (refine AW.skip ?_; (try simp only [thenQ, blockQ, ↓reduceIte, Nat.reduceEqDiff]))
    | (refine AW.ret ?_; (try simp only [thenQ, blockQ, ↓reduceIte, Nat.reduceEqDiff]))
    | (refine AW.exit ?_; (try simp only [thenQ, blockQ, ↓reduceIte, Nat.reduceEqDiff]))
    | (refine AWL.nil ?_; (try simp only [thenQ, blockQ, ↓reduceIte, Nat.reduceEqDiff]))
    | (refine DQ.nil ?_; (try simp only [thenQ, blockQ, ↓reduceIte, Nat.reduceEqDiff]))
    | ((first
      | (refine AWL.op (sl := SL) rfl rfl ?_ ?_)
      | (refine DQ.op rfl rfl rfl rfl rfl ?_ ?_)
      | (refine DQ.yes rfl ?_ ?_)
      | (refine DQ.step rfl rfl rfl rfl (QStep.assign rfl) ?_)
      | (refine AWL.frzA rfl rfl ?_)
      | (refine AWL.callV (f := 10) rfl rfl rfl rfl ?_ (Nat.le_of_ble_eq_true rfl) rfl (awake_ok) ?_; (focus kernel_rfl))
      | (refine AWL.call (f := 10) rfl rfl rfl ?_ rfl (Nat.le_of_ble_eq_true rfl) rfl (awake_ok) ?_; (focus kernel_rfl))
      | (refine CWr.call (f := 10) rfl ?_ rfl (awake_ok) (fun _ _ h => h) ?_ ?_ ?_; (focus kernel_rfl))
      | (refine DQ.step rfl rfl rfl rfl (QStep.call (f := 10) rfl ?_ rfl (awake_ok) (fun _ _ h => h) (fun _ => rfl)) ?_; (focus kernel_rfl))
      | (refine DQ.yesC (QStep.call (f := 10) rfl ?_ rfl (awake_ok) (fun _ _ h => h) (fun _ => rfl)) ?_; (focus kernel_rfl))
      | (refine AWL.callV (f := 15) rfl rfl rfl rfl ?_ (Nat.le_of_ble_eq_true rfl) rfl (pu_one n hn) ?_; (focus kernel_rfl))
      | (refine AWL.call (f := 15) rfl rfl rfl ?_ rfl (Nat.le_of_ble_eq_true rfl) rfl (pu_one n hn) ?_; (focus kernel_rfl))
      | (refine CWr.call (f := 15) rfl ?_ rfl (pu_one n hn) (fun _ _ h => h) ?_ ?_ ?_; (focus kernel_rfl))
      | (refine DQ.step rfl rfl rfl rfl (QStep.call (f := 15) rfl ?_ rfl (pu_one n hn) (fun _ _ h => h) (fun _ => rfl)) ?_; (focus kernel_rfl))
      | (refine DQ.yesC (QStep.call (f := 15) rfl ?_ rfl (pu_one n hn) (fun _ _ h => h) (fun _ => rfl)) ?_; (focus kernel_rfl))
      | (refine AWL.callV (f := 17) rfl rfl rfl rfl ?_ (Nat.le_of_ble_eq_true rfl) rfl (ps_one s hs) ?_; (focus kernel_rfl))
      | (refine AWL.call (f := 17) rfl rfl rfl ?_ rfl (Nat.le_of_ble_eq_true rfl) rfl (ps_one s hs) ?_; (focus kernel_rfl))
      | (refine CWr.call (f := 17) rfl ?_ rfl (ps_one s hs) (fun _ _ h => h) ?_ ?_ ?_; (focus kernel_rfl))
      | (refine DQ.step rfl rfl rfl rfl (QStep.call (f := 17) rfl ?_ rfl (ps_one s hs) (fun _ _ h => h) (fun _ => rfl)) ?_; (focus kernel_rfl))
      | (refine DQ.yesC (QStep.call (f := 17) rfl ?_ rfl (ps_one s hs) (fun _ _ h => h) (fun _ => rfl)) ?_; (focus kernel_rfl))
      | (refine AWL.callV (f := 11) rfl rfl rfl rfl ?_ (Nat.le_of_ble_eq_true rfl) rfl (hU2) ?_; (focus kernel_rfl))
      | (refine AWL.call (f := 11) rfl rfl rfl ?_ rfl (Nat.le_of_ble_eq_true rfl) rfl (hU2) ?_; (focus kernel_rfl))
      | (refine CWr.call (f := 11) rfl ?_ rfl (hU2) (fun _ _ h => h) ?_ ?_ ?_; (focus kernel_rfl))
      | (refine DQ.step rfl rfl rfl rfl (QStep.call (f := 11) rfl ?_ rfl (hU2) (fun _ _ h => h) (fun _ => rfl)) ?_; (focus kernel_rfl))
      | (refine DQ.yesC (QStep.call (f := 11) rfl ?_ rfl (hU2) (fun _ _ h => h) (fun _ => rfl)) ?_; (focus kernel_rfl))
      | (refine AWL.callV (f := 11) rfl rfl rfl rfl ?_ (Nat.le_of_ble_eq_true rfl) rfl (hU1) ?_; (focus kernel_rfl))
      | (refine AWL.call (f := 11) rfl rfl rfl ?_ rfl (Nat.le_of_ble_eq_true rfl) rfl (hU1) ?_; (focus kernel_rfl))
      | (refine CWr.call (f := 11) rfl ?_ rfl (hU1) (fun _ _ h => h) ?_ ?_ ?_; (focus kernel_rfl))
      | (refine DQ.step rfl rfl rfl rfl (QStep.call (f := 11) rfl ?_ rfl (hU1) (fun _ _ h => h) (fun _ => rfl)) ?_; (focus kernel_rfl))
      | (refine DQ.yesC (QStep.call (f := 11) rfl ?_ rfl (hU1) (fun _ _ h => h) (fun _ => rfl)) ?_; (focus kernel_rfl))
      | (refine AWL.callV (f := 13) rfl rfl rfl rfl ?_ (Nat.le_of_ble_eq_true rfl) rfl (hS1) ?_; (focus kernel_rfl))
      | (refine AWL.call (f := 13) rfl rfl rfl ?_ rfl (Nat.le_of_ble_eq_true rfl) rfl (hS1) ?_; (focus kernel_rfl))
      | (refine CWr.call (f := 13) rfl ?_ rfl (hS1) (fun _ _ h => h) ?_ ?_ ?_; (focus kernel_rfl))
      | (refine DQ.step rfl rfl rfl rfl (QStep.call (f := 13) rfl ?_ rfl (hS1) (fun _ _ h => h) (fun _ => rfl)) ?_; (focus kernel_rfl))
      | (refine DQ.yesC (QStep.call (f := 13) rfl ?_ rfl (hS1) (fun _ _ h => h) (fun _ => rfl)) ?_; (focus kernel_rfl))
      | fail) <;> (first | ((first | show AWL _ _ _ _ _ | show DQ _ _ _ _ _ _ | show AW _ _ _ _ | (rintro _ _ ⟨rfl, rfl⟩; (try refine And.intro rfl ?_))); (try simp (disch := omega) only [NS, ints_nums, ints_nil, ints_cons, eqL_nil, eqL_cons, eqS_int, eqS_bool, eqS_str, Nat.reduceBEq, Nat.reduceAdd, Nat.reduceMul, Int.reduceToNat, Nat.reduceSub, TY, slx, hs', hc', e1, e2, e3, e4, e5, e6, e7])) | (focus ((first | exact trivial | omega | (refine And.intro (by kernel_rfl) (And.intro ⟨_, (by first | exact nums_ints _ _ | rfl), (by first | exact nums_ints _ _ | rfl)⟩ (And.intro ?_ ?_)) <;> (first | rfl | assumption | (simp only [nums_length]; omega) | omega)) | (refine And.intro ?_ (And.intro ?_ ?_); (focus kernel_rfl); (focus kernel_rfl); (focus kernel_rfl)) | exact ld_nums i3 _ _ (by first | assumption | omega | (simp only [List.length_append]; omega)) | exact ld_nums i5 _ _ (by first | assumption | omega | (simp only [List.length_append]; omega)) | exact ld_nums i24 _ _ (by first | assumption | omega | (simp only [List.length_append]; omega)) | (show _ ≤ _; omega) | (simp only [List.length_take, List.length_drop, List.length_append, List.length_cons, List.length_nil]; omega) | ((repeat' (first | exact trivial | exact rfl | exact Nat.le_of_ble_eq_true rfl | refine And.intro ?_ ?_ | fail)); done) | ((try simp (disch := omega) only [NS, ints_nums, ints_nil, ints_cons, eqL_nil, eqL_cons, eqS_int, eqS_bool, eqS_str, Nat.reduceBEq, Nat.reduceAdd, Nat.reduceMul, Int.reduceToNat, Nat.reduceSub, TY, slx, hs', hc', e1, e2, e3, e4, e5, e6, e7]); (repeat' (first | exact trivial | exact rfl | exact ⟨_, _, rfl⟩ | exact ⟨_, rfl⟩ | exact Nat.le_of_ble_eq_true rfl | exact Nat.zero_lt_succ _ | omega | refine And.intro ?_ ?_ | fail)); done)); done))))
    | (refine AWL.guard2 rfl rfl rfl rfl rfl rfl ?_ ?_ <;> (intro hc; (try simp only [Bool.not_true, Bool.not_false] at hc); first | (cases hc; done) | ((try simp only [hc]); (try simp only [beq_iff_eq, bne_iff_ne, decide_eq_true_eq, decide_eq_false_iff_not, beq_eq_false_iff_ne, bne_eq_false_iff_eq, ne_eq, Bool.not_eq_true, Bool.not_eq_false, Bool.not_eq_eq_eq_not, Bool.not_true, Bool.not_false, Decidable.not_not, Int.not_lt, Int.not_le] at hc); (try (exfalso; omega)); (try (guard_hyp hc : True; clear hc)))))
    | (refine AWL.guard2 rfl rfl rfl rfl rfl rfl (fun hc => ?_) ?_; (cases hc; done))
    | (refine AW.drawn false hmix ?_ ?_; (focus kernel_rfl))
    | (refine AWL.guardU rfl rfl rfl rfl rfl rfl ?_; (try simp (disch := omega) only [NS, ints_nums, ints_nil, ints_cons, eqL_nil, eqL_cons, eqS_int, eqS_bool, eqS_str, Nat.reduceBEq, Nat.reduceAdd, Nat.reduceMul, Int.reduceToNat, Nat.reduceSub, TY, slx, hs', hc', e1, e2, e3, e4, e5, e6, e7]))
    | (refine DQ.guardU rfl rfl rfl rfl rfl rfl rfl ?_; (try simp (disch := omega) only [NS, ints_nums, ints_nil, ints_cons, eqL_nil, eqL_cons, eqS_int, eqS_bool, eqS_str, Nat.reduceBEq, Nat.reduceAdd, Nat.reduceMul, Int.reduceToNat, Nat.reduceSub, TY, slx, hs', hc', e1, e2, e3, e4, e5, e6, e7]))
    | refine DQ.tail rfl ?_
    | (refine DQ.guard2 rfl rfl rfl rfl rfl rfl rfl ?_ ?_ <;> (intro hc; (try simp only [Bool.not_true, Bool.not_false] at hc); first | (cases hc; done) | ((try simp only [hc]); (try simp only [beq_iff_eq, bne_iff_ne, decide_eq_true_eq, decide_eq_false_iff_not, beq_eq_false_iff_ne, bne_eq_false_iff_eq, ne_eq, Bool.not_eq_true, Bool.not_eq_false, Bool.not_eq_eq_eq_not, Bool.not_true, Bool.not_false, Decidable.not_not, Int.not_lt, Int.not_le] at hc); (try (exfalso; omega)); (try (guard_hyp hc : True; clear hc)))))
    | (refine AW.cond rfl (fun hc => ?_) (fun hc => ?_) <;> first | (cases hc; done) | ((try simp only [beq_iff_eq, bne_iff_ne, decide_eq_true_eq, decide_eq_false_iff_not, beq_eq_false_iff_ne, bne_eq_false_iff_eq, ne_eq, Bool.not_eq_true, Bool.not_eq_false, Bool.not_eq_eq_eq_not, Bool.not_true, Bool.not_false, Decidable.not_not, Int.not_lt, Int.not_le] at hc); (try (exfalso; omega)); (try (guard_hyp hc : True; clear hc))))
    | (refine EndQ.mk rfl rfl rfl ?_ ?_ ?_; (focus (first | exact Or.inl rfl | exact Or.inr rfl)); (focus ((first | exact trivial | omega | (refine And.intro (by kernel_rfl) (And.intro ⟨_, (by first | exact nums_ints _ _ | rfl), (by first | exact nums_ints _ _ | rfl)⟩ (And.intro ?_ ?_)) <;> (first | rfl | assumption | (simp only [nums_length]; omega) | omega)) | (refine And.intro ?_ (And.intro ?_ ?_); (focus kernel_rfl); (focus kernel_rfl); (focus kernel_rfl)) | exact ld_nums i3 _ _ (by first | assumption | omega | (simp only [List.length_append]; omega)) | exact ld_nums i5 _ _ (by first | assumption | omega | (simp only [List.length_append]; omega)) | exact ld_nums i24 _ _ (by first | assumption | omega | (simp only [List.length_append]; omega)) | (show _ ≤ _; omega) | (simp only [List.length_take, List.length_drop, List.length_append, List.length_cons, List.length_nil]; omega) | ((repeat' (first | exact trivial | exact rfl | exact Nat.le_of_ble_eq_true rfl | refine And.intro ?_ ?_ | fail)); done) | ((try simp (disch := omega) only [NS, ints_nums, ints_nil, ints_cons, eqL_nil, eqL_cons, eqS_int, eqS_bool, eqS_str, Nat.reduceBEq, Nat.reduceAdd, Nat.reduceMul, Int.reduceToNat, Nat.reduceSub, TY, slx, hs', hc', e1, e2, e3, e4, e5, e6, e7]); (repeat' (first | exact trivial | exact rfl | exact ⟨_, _, rfl⟩ | exact ⟨_, rfl⟩ | exact Nat.le_of_ble_eq_true rfl | exact Nat.zero_lt_succ _ | omega | refine And.intro ?_ ?_ | fail)); done)); done)); (try simp (disch := omega) only [NS, ints_nums, ints_nil, ints_cons, eqL_nil, eqL_cons, eqS_int, eqS_bool, eqS_str, Nat.reduceBEq, Nat.reduceAdd, Nat.reduceMul, Int.reduceToNat, Nat.reduceSub, TY, slx, hs', hc', e1, e2, e3, e4, e5, e6, e7]))
    | fail)
  all_goals first | exact ⟨trivial, trivial⟩ | exact ⟨rfl, trivial⟩ | exact ⟨rfl, rfl⟩ | exact ⟨trivial, rfl⟩ | (exfalso; omega) | trace_state
end Go.Proofs.Yticidhkilfkgbaa
