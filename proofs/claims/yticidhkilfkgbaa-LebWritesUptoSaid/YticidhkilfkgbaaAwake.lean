/- awake. -/
import Derived.Test.YticidhkilfkgbaaV4
import Derived.Test.YticidhkilfkgbaaRLaw
import Derived.Test.YticidhkilfkgbaaPU
import Derived.Test.YticidhkilfkgbaaPS
namespace Go.Proofs.Yticidhkilfkgbaa
set_option linter.unusedSimpArgs false
set_option linter.unusedVariables false
open Go Go.Abs
attribute [local irreducible] AW AWL AC DQ IntKind.wrap

theorem u_at (n : Nat) (xs : List Int) (hn : n = xs.length) (hb : bytes xs) (hlen : xs.length ≤ 1000000000000000) (at_ bits : Int) :
    AC Try.prog 11 [.view n 1 (nums .u8 xs), .int .i64 at_, .int .i64 bits] (fun r m => r = .tup [.int .u64 (uSpec xs at_ bits).1, .int .i64 (uSpec xs at_ bits).2.1, .int .i64 (uSpec xs at_ bits).2.2] ∧ m = []) := by
  subst hn; exact u_ok xs hb hlen at_ bits
theorem s_at (n : Nat) (xs : List Int) (hn : n = xs.length) (hb : bytes xs) (hlen : xs.length ≤ 1000000000000000) (at_ bits : Int) :
    AC Try.prog 13 [.view n 1 (nums .u8 xs), .int .i64 at_, .int .i64 bits] (fun r m => r = .tup [.int .i64 (sSpec xs at_ bits).1, .int .i64 (sSpec xs at_ bits).2.1, .int .i64 (sSpec xs at_ bits).2.2] ∧ m = []) := by
  subst hn; exact s_ok xs hb hlen at_ bits
theorem pu_look (n : Nat) (xs : List Int) (hn : n = xs.length) (hb : ∀ x ∈ xs, 0 ≤ x ∧ x < 2 ^ 64) (hlen : xs.length ≤ 1000000000000) : AC Try.prog 15 [.view n 1 (nums .u64 xs)] (fun r m => r = .view (putUs xs).length 1 (nums .u8 (putUs xs)) ∧ m = []) := by
  subst hn; exact (pu_ok xs hb hlen).look (by simp [nums])
theorem ps_look (n : Nat) (xs : List Int) (hn : n = xs.length) (hb : ∀ x ∈ xs, -2 ^ 63 ≤ x ∧ x < 2 ^ 63) (hlen : xs.length ≤ 1000000000000) : AC Try.prog 17 [.view n 1 (nums .i64 xs)] (fun r m => r = .view (putSs xs).length 1 (nums .u8 (putSs xs)) ∧ m = []) := by
  subst hn; exact (ps_ok xs hb hlen).look (by simp [nums])
theorem u_3 : uSpec [229, 142, 38] 0 32 = (624485, 3, 0) := by decide +kernel
theorem s_3 : sSpec [192, 187, 120] 0 32 = (-123456, 3, 0) := by decide +kernel
theorem pu_3 : putUs [624485, 0, 128] = [229, 142, 38, 0, 128, 1] := by
  simp only [putUs, List.append_nil]
  rw [show (624485 : Int).toNat = 624485 from rfl, show (0 : Int).toNat = 0 from rfl, show (128 : Int).toNat = 128 from rfl, putU_big (n := 624485) (by decide), putU_big (n := 128) (by decide), show 624485 / 128 = 4878 from rfl, putU_big (n := 4878) (by decide), show 4878 / 128 = 38 from rfl, putU_small (n := 38) (by decide), putU_small (n := 0) (by decide), show 128 / 128 = 1 from rfl, putU_small (n := 1) (by decide)]
  rfl
theorem ps_3 : putSs [-123456] = [192, 187, 120] := by
  simp only [putSs, List.append_nil]
  rw [putS_big (n := -123456) (by decide), show (-123456 : Int) / 128 = -965 from rfl, putS_big (n := -965) (by decide), show (-965 : Int) / 128 = -8 from rfl, putS_small (n := -8) (by decide)]
  rfl
theorem byte_of : ∀ l : List Int, (l.all fun x => decide (0 ≤ x ∧ x ≤ 255)) = true → bytes l := by
  intro l h x hx
  have := of_decide_eq_true (List.all_eq_true.1 h x hx)
  exact this
set_option maxRecDepth 4000 in
set_option maxHeartbeats 400000 in
theorem awake_ok : AC Try.prog 10 [] (fun r m => r = .bool true ∧ m = []) := by
  have h1 := u_at 3 [229, 142, 38] rfl (byte_of _ (by decide)) (by decide) 0 32
  rw [u_3] at h1
  have h2 := s_at 3 [192, 187, 120] rfl (byte_of _ (by decide)) (by decide) 0 32
  rw [s_3] at h2
  have h3 := pu_look 3 [624485, 0, 128] rfl (by intro x hx; simp at hx; rcases hx with rfl | rfl | rfl <;> decide) (by decide)
  rw [pu_3] at h3
  have h4 := ps_look 1 [-123456] rfl (by intro x hx; simp at hx; subst hx; decide) (by decide)
  rw [ps_3] at h4
  refine AC.enter Try.func10 rfl (Nat.le_of_ble_eq_true rfl) ?_
  simp only [Try.f10]
  repeat' (first
    | refine AW.seq ?_
    | refine AW.block ?_
    | refine AW.region ?_
    | (refine AW.skip ?_; (try simp only [thenQ, blockQ, ↓reduceIte, Nat.reduceEqDiff]))
    | (refine AW.ret ?_; (try simp only [thenQ, blockQ, ↓reduceIte, Nat.reduceEqDiff]))
    | (refine AW.exit ?_; (try simp only [thenQ, blockQ, ↓reduceIte, Nat.reduceEqDiff]))
    | (refine AWL.nil ?_; (try simp only [thenQ, blockQ, ↓reduceIte, Nat.reduceEqDiff]))
    | (refine DQ.nil ?_; (try simp only [thenQ, blockQ, ↓reduceIte, Nat.reduceEqDiff]))
    | ((first
      | (refine AWL.op (sl := SL) rfl rfl ?_ ?_)
      | (refine DQ.op rfl rfl rfl rfl rfl ?_ ?_)
      | (refine DQ.yes rfl ?_ ?_)
      | (refine DQ.step rfl rfl rfl rfl (QStep.assign rfl) ?_)
      | (refine AWL.frzA rfl rfl ?_)
      | (refine AWL.callV (f := 11) rfl rfl rfl rfl ?_ (Nat.le_of_ble_eq_true rfl) rfl (h1) ?_; (focus kernel_rfl))
      | (refine AWL.call (f := 11) rfl rfl rfl ?_ rfl (Nat.le_of_ble_eq_true rfl) rfl (h1) ?_; (focus kernel_rfl))
      | (refine CWr.call (f := 11) rfl ?_ rfl (h1) (fun _ _ h => h) ?_ ?_ ?_; (focus kernel_rfl))
      | (refine DQ.step rfl rfl rfl rfl (QStep.call (f := 11) rfl ?_ rfl (h1) (fun _ _ h => h) (fun _ => rfl)) ?_; (focus kernel_rfl))
      | (refine DQ.yesC (QStep.call (f := 11) rfl ?_ rfl (h1) (fun _ _ h => h) (fun _ => rfl)) ?_; (focus kernel_rfl))
      | (refine AWL.callV (f := 13) rfl rfl rfl rfl ?_ (Nat.le_of_ble_eq_true rfl) rfl (h2) ?_; (focus kernel_rfl))
      | (refine AWL.call (f := 13) rfl rfl rfl ?_ rfl (Nat.le_of_ble_eq_true rfl) rfl (h2) ?_; (focus kernel_rfl))
      | (refine CWr.call (f := 13) rfl ?_ rfl (h2) (fun _ _ h => h) ?_ ?_ ?_; (focus kernel_rfl))
      | (refine DQ.step rfl rfl rfl rfl (QStep.call (f := 13) rfl ?_ rfl (h2) (fun _ _ h => h) (fun _ => rfl)) ?_; (focus kernel_rfl))
      | (refine DQ.yesC (QStep.call (f := 13) rfl ?_ rfl (h2) (fun _ _ h => h) (fun _ => rfl)) ?_; (focus kernel_rfl))
      | (refine AWL.callV (f := 15) rfl rfl rfl rfl ?_ (Nat.le_of_ble_eq_true rfl) rfl (h3) ?_; (focus kernel_rfl))
      | (refine AWL.call (f := 15) rfl rfl rfl ?_ rfl (Nat.le_of_ble_eq_true rfl) rfl (h3) ?_; (focus kernel_rfl))
      | (refine CWr.call (f := 15) rfl ?_ rfl (h3) (fun _ _ h => h) ?_ ?_ ?_; (focus kernel_rfl))
      | (refine DQ.step rfl rfl rfl rfl (QStep.call (f := 15) rfl ?_ rfl (h3) (fun _ _ h => h) (fun _ => rfl)) ?_; (focus kernel_rfl))
      | (refine DQ.yesC (QStep.call (f := 15) rfl ?_ rfl (h3) (fun _ _ h => h) (fun _ => rfl)) ?_; (focus kernel_rfl))
      | (refine AWL.callV (f := 17) rfl rfl rfl rfl ?_ (Nat.le_of_ble_eq_true rfl) rfl (h4) ?_; (focus kernel_rfl))
      | (refine AWL.call (f := 17) rfl rfl rfl ?_ rfl (Nat.le_of_ble_eq_true rfl) rfl (h4) ?_; (focus kernel_rfl))
      | (refine CWr.call (f := 17) rfl ?_ rfl (h4) (fun _ _ h => h) ?_ ?_ ?_; (focus kernel_rfl))
      | (refine DQ.step rfl rfl rfl rfl (QStep.call (f := 17) rfl ?_ rfl (h4) (fun _ _ h => h) (fun _ => rfl)) ?_; (focus kernel_rfl))
      | (refine DQ.yesC (QStep.call (f := 17) rfl ?_ rfl (h4) (fun _ _ h => h) (fun _ => rfl)) ?_; (focus kernel_rfl))
      | fail) <;> (first | ((first | show AWL _ _ _ _ _ | show DQ _ _ _ _ _ _ | show AW _ _ _ _ | (rintro _ _ ⟨rfl, rfl⟩; (try refine And.intro rfl ?_))); (try simp (disch := omega) only [NS, Nat.reduceBEq, Nat.reduceAdd, Nat.reduceMul, TY, slx])) | (focus ((first | exact trivial | omega | exact ld_nums i3 _ _ (by first | assumption | omega | (simp only [List.length_append]; omega)) | exact ld_nums i5 _ _ (by first | assumption | omega | (simp only [List.length_append]; omega)) | exact ld_nums i24 _ _ (by first | assumption | omega | (simp only [List.length_append]; omega)) | (show _ ≤ _; omega) | (simp only [List.length_take, List.length_drop, List.length_append, List.length_cons, List.length_nil]; omega) | ((repeat' (first | exact trivial | exact rfl | exact Nat.le_of_ble_eq_true rfl | refine And.intro ?_ ?_ | fail)); done) | ((try simp (disch := omega) only [NS, Nat.reduceBEq, Nat.reduceAdd, Nat.reduceMul, TY, slx]); (repeat' (first | exact trivial | exact rfl | exact ⟨_, _, rfl⟩ | exact ⟨_, rfl⟩ | exact Nat.le_of_ble_eq_true rfl | exact Nat.zero_lt_succ _ | omega | refine And.intro ?_ ?_ | fail)); done)); done))))
    | (refine AWL.guard2 rfl rfl rfl rfl rfl rfl ?_ ?_ <;> (intro hc; (try simp only [Bool.not_true, Bool.not_false] at hc); first | (cases hc; done) | ((try simp only [hc]); (try simp only [beq_iff_eq, bne_iff_ne, decide_eq_true_eq, decide_eq_false_iff_not, beq_eq_false_iff_ne, bne_eq_false_iff_eq, ne_eq, Bool.not_eq_true, Bool.not_eq_false, Bool.not_eq_eq_eq_not, Bool.not_true, Bool.not_false, Decidable.not_not, Int.not_lt, Int.not_le] at hc); (try (exfalso; omega)); (try (guard_hyp hc : True; clear hc)))))
    | (refine AWL.guard2 rfl rfl rfl rfl rfl rfl (fun hc => ?_) ?_; (cases hc; done))
    | (refine AW.drawn false hmix ?_ ?_; (focus kernel_rfl))
    | (refine AWL.guardU rfl rfl rfl rfl rfl rfl ?_; (try simp (disch := omega) only [NS, Nat.reduceBEq, Nat.reduceAdd, Nat.reduceMul, TY, slx]))
    | (refine DQ.guardU rfl rfl rfl rfl rfl rfl rfl ?_; (try simp (disch := omega) only [NS, Nat.reduceBEq, Nat.reduceAdd, Nat.reduceMul, TY, slx]))
    | refine DQ.tail rfl ?_
    | (refine DQ.guard2 rfl rfl rfl rfl rfl rfl rfl ?_ ?_ <;> (intro hc; (try simp only [Bool.not_true, Bool.not_false] at hc); first | (cases hc; done) | ((try simp only [hc]); (try simp only [beq_iff_eq, bne_iff_ne, decide_eq_true_eq, decide_eq_false_iff_not, beq_eq_false_iff_ne, bne_eq_false_iff_eq, ne_eq, Bool.not_eq_true, Bool.not_eq_false, Bool.not_eq_eq_eq_not, Bool.not_true, Bool.not_false, Decidable.not_not, Int.not_lt, Int.not_le] at hc); (try (exfalso; omega)); (try (guard_hyp hc : True; clear hc)))))
    | (refine AW.cond rfl (fun hc => ?_) (fun hc => ?_) <;> first | (cases hc; done) | ((try simp only [beq_iff_eq, bne_iff_ne, decide_eq_true_eq, decide_eq_false_iff_not, beq_eq_false_iff_ne, bne_eq_false_iff_eq, ne_eq, Bool.not_eq_true, Bool.not_eq_false, Bool.not_eq_eq_eq_not, Bool.not_true, Bool.not_false, Decidable.not_not, Int.not_lt, Int.not_le] at hc); (try (exfalso; omega)); (try (guard_hyp hc : True; clear hc))))
    | (refine EndQ.mk rfl rfl rfl ?_ ?_ ?_; (focus (first | exact Or.inl rfl | exact Or.inr rfl)); (focus ((first | exact trivial | omega | exact ld_nums i3 _ _ (by first | assumption | omega | (simp only [List.length_append]; omega)) | exact ld_nums i5 _ _ (by first | assumption | omega | (simp only [List.length_append]; omega)) | exact ld_nums i24 _ _ (by first | assumption | omega | (simp only [List.length_append]; omega)) | (show _ ≤ _; omega) | (simp only [List.length_take, List.length_drop, List.length_append, List.length_cons, List.length_nil]; omega) | ((repeat' (first | exact trivial | exact rfl | exact Nat.le_of_ble_eq_true rfl | refine And.intro ?_ ?_ | fail)); done) | ((try simp (disch := omega) only [NS, Nat.reduceBEq, Nat.reduceAdd, Nat.reduceMul, TY, slx]); (repeat' (first | exact trivial | exact rfl | exact ⟨_, _, rfl⟩ | exact ⟨_, rfl⟩ | exact Nat.le_of_ble_eq_true rfl | exact Nat.zero_lt_succ _ | omega | refine And.intro ?_ ?_ | fail)); done)); done)); (try simp (disch := omega) only [NS, Nat.reduceBEq, Nat.reduceAdd, Nat.reduceMul, TY, slx]))
    | fail)
  refine ⟨congrArg V.bool ?_, trivial⟩
  rfl
end Go.Proofs.Yticidhkilfkgbaa
