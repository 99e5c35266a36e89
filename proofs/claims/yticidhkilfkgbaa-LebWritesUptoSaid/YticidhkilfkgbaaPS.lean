/- leb.PutS. -/
import Derived.Test.YticidhkilfkgbaaV4
import Derived.Test.YticidhkilfkgbaaPut
namespace Go.Proofs.Yticidhkilfkgbaa
set_option linter.unusedSimpArgs false
set_option linter.unusedVariables false
open Go Go.Abs
attribute [local irreducible] AW AWL AC DQ IntKind.wrap

def S17 (xs : List Int) (n : Int) (n3 : Nat) (c3 : List V) (i : Int) : St :=
  { n := 34, slots := [(0, .view xs.length 1 (nums .i64 xs)), (2, .ref 2 0 0 1), (3, .ref 3 0 n3 1), (5, .int .i64 n), (6, .view xs.length 1 (nums .i64 xs)), (7, .int .i64 xs.length), (8, .int .i64 i)], mem := [(3, ⟨true, c3⟩)] }
def T17 (xs : List Int) (n3 : Nat) (c3 : List V) (i : Int) : St :=
  { n := 34, slots := [(0, .view xs.length 1 (nums .i64 xs)), (2, .ref 2 0 0 1), (3, .ref 3 0 n3 1), (6, .view xs.length 1 (nums .i64 xs)), (7, .int .i64 xs.length), (8, .int .i64 i)], mem := [(3, ⟨true, c3⟩)] }
set_option maxHeartbeats 800000 in
theorem ps_ok (xs : List Int) (hb : ∀ x ∈ xs, -2 ^ 63 ≤ x ∧ x < 2 ^ 63) (hlen : xs.length ≤ 1000000000000) : AC Try.prog 17 [.view xs.length 1 (nums .i64 xs)] (fun r m => r = .ref 2 0 (putSs xs).length 1 ∧ m = [(2, nums .u8 (putSs xs))]) := by
  refine AC.enter Try.func17 rfl (Nat.le_of_ble_eq_true rfl) ?_
  simp only [Try.f17]
  repeat' (first
    | refine AW.seq ?_
    | refine AW.block ?_
    | refine AW.region ?_
    | (refine AW.skip ?_; (try simp only [thenQ, blockQ, ↓reduceIte, Nat.reduceEqDiff]))
    | (refine AW.ret ?_; (try simp only [thenQ, blockQ, ↓reduceIte, Nat.reduceEqDiff]))
    | (refine AW.exit ?_; (try simp only [thenQ, blockQ, ↓reduceIte, Nat.reduceEqDiff]))
    | (refine AWL.nil ?_; (try simp only [thenQ, blockQ, ↓reduceIte, Nat.reduceEqDiff]))
    | (refine DQ.nil ?_; (try simp only [thenQ, blockQ, ↓reduceIte, Nat.reduceEqDiff]))
    | ((first
      | (refine AWL.op (sl := SL) rfl rfl ?_ ?_)
      | (refine DQ.op rfl rfl rfl rfl rfl ?_ ?_)
      | (refine DQ.yes rfl ?_ ?_)
      | (refine DQ.step rfl rfl rfl rfl (QStep.assign rfl) ?_)
      | fail) <;> (first | ((first | show AWL _ _ _ _ _ | show DQ _ _ _ _ _ _ | show AW _ _ _ _ | (rintro _ _ ⟨rfl, rfl⟩; (try refine And.intro rfl ?_))); (try simp (disch := omega) only [NS, Nat.reduceBEq, Nat.reduceAdd, Nat.reduceMul, TY, slx, S17, T17])) | (focus ((first | exact trivial | omega | exact ld_nums i3 _ _ (by first | assumption | omega | (simp only [List.length_append]; omega)) | exact ld_nums i5 _ _ (by first | assumption | omega | (simp only [List.length_append]; omega)) | exact ld_nums i24 _ _ (by first | assumption | omega | (simp only [List.length_append]; omega)) | exact ld_nums i2 _ _ (by first | assumption | omega) | (show _ ≤ _; omega) | (simp only [List.length_take, List.length_drop, List.length_append, List.length_cons, List.length_nil]; omega) | ((repeat' (first | exact trivial | exact rfl | exact Nat.le_of_ble_eq_true rfl | refine And.intro ?_ ?_ | fail)); done) | ((try simp (disch := omega) only [NS, Nat.reduceBEq, Nat.reduceAdd, Nat.reduceMul, TY, slx, S17, T17]); (repeat' (first | exact trivial | exact rfl | exact ⟨_, _, rfl⟩ | exact ⟨_, rfl⟩ | exact Nat.le_of_ble_eq_true rfl | exact Nat.zero_lt_succ _ | omega | refine And.intro ?_ ?_ | fail)); done)); done))))
    | (refine AWL.guard2 rfl rfl rfl rfl rfl rfl ?_ ?_ <;> (intro hc; (try simp only [Bool.not_true, Bool.not_false] at hc); first | (cases hc; done) | ((try simp only [hc]); (try simp only [beq_iff_eq, bne_iff_ne, decide_eq_true_eq, decide_eq_false_iff_not, beq_eq_false_iff_ne, bne_eq_false_iff_eq, ne_eq, Bool.not_eq_true, Bool.not_eq_false, Bool.not_eq_eq_eq_not, Bool.not_true, Bool.not_false, Decidable.not_not, Int.not_lt, Int.not_le] at hc); (try (exfalso; omega)); (try (guard_hyp hc : True; clear hc)))))
    | (refine AWL.guard2 rfl rfl rfl rfl rfl rfl (fun hc => ?_) ?_; (cases hc; done))
    | (refine AW.drawn false hmix ?_ ?_; (focus kernel_rfl))
    | (refine AWL.guardU rfl rfl rfl rfl rfl rfl ?_; (try simp (disch := omega) only [NS, Nat.reduceBEq, Nat.reduceAdd, Nat.reduceMul, TY, slx, S17, T17]))
    | (refine DQ.guardU rfl rfl rfl rfl rfl rfl rfl ?_; (try simp (disch := omega) only [NS, Nat.reduceBEq, Nat.reduceAdd, Nat.reduceMul, TY, slx, S17, T17]))
    | refine DQ.tail rfl ?_
    | (refine DQ.guard2 rfl rfl rfl rfl rfl rfl rfl ?_ ?_ <;> (intro hc; (try simp only [Bool.not_true, Bool.not_false] at hc); first | (cases hc; done) | ((try simp only [hc]); (try simp only [beq_iff_eq, bne_iff_ne, decide_eq_true_eq, decide_eq_false_iff_not, beq_eq_false_iff_ne, bne_eq_false_iff_eq, ne_eq, Bool.not_eq_true, Bool.not_eq_false, Bool.not_eq_eq_eq_not, Bool.not_true, Bool.not_false, Decidable.not_not, Int.not_lt, Int.not_le] at hc); (try (exfalso; omega)); (try (guard_hyp hc : True; clear hc)))))
    | (refine AW.cond rfl (fun hc => ?_) (fun hc => ?_) <;> first | (cases hc; done) | ((try simp only [beq_iff_eq, bne_iff_ne, decide_eq_true_eq, decide_eq_false_iff_not, beq_eq_false_iff_ne, bne_eq_false_iff_eq, ne_eq, Bool.not_eq_true, Bool.not_eq_false, Bool.not_eq_eq_eq_not, Bool.not_true, Bool.not_false, Decidable.not_not, Int.not_lt, Int.not_le] at hc); (try (exfalso; omega)); (try (guard_hyp hc : True; clear hc))))
    | (refine EndQ.mk rfl rfl rfl ?_ ?_ ?_; (focus (first | exact Or.inl rfl | exact Or.inr rfl)); (focus ((first | exact trivial | omega | exact ld_nums i3 _ _ (by first | assumption | omega | (simp only [List.length_append]; omega)) | exact ld_nums i5 _ _ (by first | assumption | omega | (simp only [List.length_append]; omega)) | exact ld_nums i24 _ _ (by first | assumption | omega | (simp only [List.length_append]; omega)) | exact ld_nums i2 _ _ (by first | assumption | omega) | (show _ ≤ _; omega) | (simp only [List.length_take, List.length_drop, List.length_append, List.length_cons, List.length_nil]; omega) | ((repeat' (first | exact trivial | exact rfl | exact Nat.le_of_ble_eq_true rfl | refine And.intro ?_ ?_ | fail)); done) | ((try simp (disch := omega) only [NS, Nat.reduceBEq, Nat.reduceAdd, Nat.reduceMul, TY, slx, S17, T17]); (repeat' (first | exact trivial | exact rfl | exact ⟨_, _, rfl⟩ | exact ⟨_, rfl⟩ | exact Nat.le_of_ble_eq_true rfl | exact Nat.zero_lt_succ _ | omega | refine And.intro ?_ ?_ | fail)); done)); done)); (try simp (disch := omega) only [NS, Nat.reduceBEq, Nat.reduceAdd, Nat.reduceMul, TY, slx, S17, T17]))
    | fail)
  refine AW.loop [0, 2, 3, 6, 7, 8] [3] (fun n st => ∃ (k n3 : Nat) (c3 : List V) (i : Int), st = T17 xs n3 c3 i ∧ k ≤ xs.length ∧ n = xs.length - k ∧ i = k ∧ n3 = (putSs (xs.take k)).length ∧ c3 = nums .u8 (putSs (xs.take k))) ?_ ?_
  · exact ⟨_, 0, _, _, _, rfl, Nat.zero_le _, rfl, rfl, rfl, rfl⟩
  · rintro n st ⟨k, n3, c3, i, rfl, hk, rfl, rfl, rfl, rfl⟩
    by_cases hkl : k < xs.length
    · have hlk := putSs_len (xs.take k) (fun x hx => hb x (List.mem_of_mem_take hx))
      rw [List.length_take] at hlk
      have hx := hb _ (getD_mem hkl)
      have hpl := putS_len 9 (xs.getD k 0) (by have := hx.1; have := hx.2; simp only [Nat.reduceMul, Int.reducePow, Int.reduceMul]; omega)
      repeat' (first
        | refine AW.seq ?_
        | refine AW.block ?_
        | refine AW.region ?_
        | (refine AW.skip ?_; (try simp only [thenQ, blockQ, ↓reduceIte, Nat.reduceEqDiff]))
        | (refine AW.ret ?_; (try simp only [thenQ, blockQ, ↓reduceIte, Nat.reduceEqDiff]))
        | (refine AW.exit ?_; (try simp only [thenQ, blockQ, ↓reduceIte, Nat.reduceEqDiff]))
        | (refine AWL.nil ?_; (try simp only [thenQ, blockQ, ↓reduceIte, Nat.reduceEqDiff]))
        | (refine DQ.nil ?_; (try simp only [thenQ, blockQ, ↓reduceIte, Nat.reduceEqDiff]))
        | ((first
          | (refine AWL.op (sl := SL) rfl rfl ?_ ?_)
          | (refine DQ.op rfl rfl rfl rfl rfl ?_ ?_)
          | (refine DQ.yes rfl ?_ ?_)
          | (refine DQ.step rfl rfl rfl rfl (QStep.assign rfl) ?_)
          | fail) <;> (first | ((first | show AWL _ _ _ _ _ | show DQ _ _ _ _ _ _ | show AW _ _ _ _ | (rintro _ _ ⟨rfl, rfl⟩; (try refine And.intro rfl ?_))); (try simp (disch := omega) only [NS, Nat.reduceBEq, Nat.reduceAdd, Nat.reduceMul, TY, slx, S17, T17])) | (focus ((first | exact trivial | omega | exact ld_nums i3 _ _ (by first | assumption | omega | (simp only [List.length_append]; omega)) | exact ld_nums i5 _ _ (by first | assumption | omega | (simp only [List.length_append]; omega)) | exact ld_nums i24 _ _ (by first | assumption | omega | (simp only [List.length_append]; omega)) | exact ld_nums i2 _ _ (by first | assumption | omega) | (show _ ≤ _; omega) | (simp only [List.length_take, List.length_drop, List.length_append, List.length_cons, List.length_nil]; omega) | ((repeat' (first | exact trivial | exact rfl | exact Nat.le_of_ble_eq_true rfl | refine And.intro ?_ ?_ | fail)); done) | ((try simp (disch := omega) only [NS, Nat.reduceBEq, Nat.reduceAdd, Nat.reduceMul, TY, slx, S17, T17]); (repeat' (first | exact trivial | exact rfl | exact ⟨_, _, rfl⟩ | exact ⟨_, rfl⟩ | exact Nat.le_of_ble_eq_true rfl | exact Nat.zero_lt_succ _ | omega | refine And.intro ?_ ?_ | fail)); done)); done))))
        | (refine AWL.guard2 rfl rfl rfl rfl rfl rfl ?_ ?_ <;> (intro hc; (try simp only [Bool.not_true, Bool.not_false] at hc); first | (cases hc; done) | ((try simp only [hc]); (try simp only [beq_iff_eq, bne_iff_ne, decide_eq_true_eq, decide_eq_false_iff_not, beq_eq_false_iff_ne, bne_eq_false_iff_eq, ne_eq, Bool.not_eq_true, Bool.not_eq_false, Bool.not_eq_eq_eq_not, Bool.not_true, Bool.not_false, Decidable.not_not, Int.not_lt, Int.not_le] at hc); (try (exfalso; omega)); (try (guard_hyp hc : True; clear hc)))))
        | (refine AWL.guard2 rfl rfl rfl rfl rfl rfl (fun hc => ?_) ?_; (cases hc; done))
        | (refine AW.drawn false hmix ?_ ?_; (focus kernel_rfl))
        | (refine AWL.guardU rfl rfl rfl rfl rfl rfl ?_; (try simp (disch := omega) only [NS, Nat.reduceBEq, Nat.reduceAdd, Nat.reduceMul, TY, slx, S17, T17]))
        | (refine DQ.guardU rfl rfl rfl rfl rfl rfl rfl ?_; (try simp (disch := omega) only [NS, Nat.reduceBEq, Nat.reduceAdd, Nat.reduceMul, TY, slx, S17, T17]))
        | refine DQ.tail rfl ?_
        | (refine DQ.guard2 rfl rfl rfl rfl rfl rfl rfl ?_ ?_ <;> (intro hc; (try simp only [Bool.not_true, Bool.not_false] at hc); first | (cases hc; done) | ((try simp only [hc]); (try simp only [beq_iff_eq, bne_iff_ne, decide_eq_true_eq, decide_eq_false_iff_not, beq_eq_false_iff_ne, bne_eq_false_iff_eq, ne_eq, Bool.not_eq_true, Bool.not_eq_false, Bool.not_eq_eq_eq_not, Bool.not_true, Bool.not_false, Decidable.not_not, Int.not_lt, Int.not_le] at hc); (try (exfalso; omega)); (try (guard_hyp hc : True; clear hc)))))
        | (refine AW.cond rfl (fun hc => ?_) (fun hc => ?_) <;> first | (cases hc; done) | ((try simp only [beq_iff_eq, bne_iff_ne, decide_eq_true_eq, decide_eq_false_iff_not, beq_eq_false_iff_ne, bne_eq_false_iff_eq, ne_eq, Bool.not_eq_true, Bool.not_eq_false, Bool.not_eq_eq_eq_not, Bool.not_true, Bool.not_false, Decidable.not_not, Int.not_lt, Int.not_le] at hc); (try (exfalso; omega)); (try (guard_hyp hc : True; clear hc))))
        | (refine EndQ.mk rfl rfl rfl ?_ ?_ ?_; (focus (first | exact Or.inl rfl | exact Or.inr rfl)); (focus ((first | exact trivial | omega | exact ld_nums i3 _ _ (by first | assumption | omega | (simp only [List.length_append]; omega)) | exact ld_nums i5 _ _ (by first | assumption | omega | (simp only [List.length_append]; omega)) | exact ld_nums i24 _ _ (by first | assumption | omega | (simp only [List.length_append]; omega)) | exact ld_nums i2 _ _ (by first | assumption | omega) | (show _ ≤ _; omega) | (simp only [List.length_take, List.length_drop, List.length_append, List.length_cons, List.length_nil]; omega) | ((repeat' (first | exact trivial | exact rfl | exact Nat.le_of_ble_eq_true rfl | refine And.intro ?_ ?_ | fail)); done) | ((try simp (disch := omega) only [NS, Nat.reduceBEq, Nat.reduceAdd, Nat.reduceMul, TY, slx, S17, T17]); (repeat' (first | exact trivial | exact rfl | exact ⟨_, _, rfl⟩ | exact ⟨_, rfl⟩ | exact Nat.le_of_ble_eq_true rfl | exact Nat.zero_lt_succ _ | omega | refine And.intro ?_ ?_ | fail)); done)); done)); (try simp (disch := omega) only [NS, Nat.reduceBEq, Nat.reduceAdd, Nat.reduceMul, TY, slx, S17, T17]))
        | fail)
      refine AW.loop [0, 2, 3, 5, 6, 7, 8] [3] (fun n st => ∃ (m : Int) (n3 : Nat) (o : List Int), st = S17 xs m n3 (nums .u8 o) k ∧ n = m.natAbs ∧ (-2 ^ 63 ≤ m ∧ m < 2 ^ 63) ∧ n3 = o.length ∧ putSs (xs.take k) ++ putS (xs.getD k 0) = o ++ putS m) ?_ ?_
      · exact ⟨_, xs.getD k 0, _, putSs (xs.take k), rfl, rfl, hx, rfl, rfl⟩
      · rintro _ st ⟨n, n3, o, rfl, rfl, hm, rfl, he⟩
        have hel := congrArg List.length he
        rw [List.length_append, List.length_append] at hel
        have hsh := shr7 (k := .i64) n (by decide)
        have hlb := lowByte n
        have han := and_i127 n
        have e1 : IntKind.u8.wrap (n % 128) = n % 128 := wrap_in rfl (by omega) (by show _ < (256 : Int); omega)
        repeat' (first
          | refine AW.seq ?_
          | refine AW.block ?_
          | refine AW.region ?_
          | (refine AW.skip ?_; (try simp only [thenQ, blockQ, ↓reduceIte, Nat.reduceEqDiff]))
          | (refine AW.ret ?_; (try simp only [thenQ, blockQ, ↓reduceIte, Nat.reduceEqDiff]))
          | (refine AW.exit ?_; (try simp only [thenQ, blockQ, ↓reduceIte, Nat.reduceEqDiff]))
          | (refine AWL.nil ?_; (try simp only [thenQ, blockQ, ↓reduceIte, Nat.reduceEqDiff]))
          | (refine DQ.nil ?_; (try simp only [thenQ, blockQ, ↓reduceIte, Nat.reduceEqDiff]))
          | ((first
            | (refine AWL.op (sl := SL) rfl rfl ?_ ?_)
            | (refine DQ.op rfl rfl rfl rfl rfl ?_ ?_)
            | (refine DQ.yes rfl ?_ ?_)
            | (refine DQ.step rfl rfl rfl rfl (QStep.assign rfl) ?_)
            | fail) <;> (first | ((first | show AWL _ _ _ _ _ | show DQ _ _ _ _ _ _ | show AW _ _ _ _ | (rintro _ _ ⟨rfl, rfl⟩; (try refine And.intro rfl ?_))); (try simp (disch := omega) only [NS, Nat.reduceBEq, Nat.reduceAdd, Nat.reduceMul, TY, slx, S17, T17, hsh, hlb, han, e1])) | (focus ((first | exact trivial | omega | exact ld_nums i3 _ _ (by first | assumption | omega | (simp only [List.length_append]; omega)) | exact ld_nums i5 _ _ (by first | assumption | omega | (simp only [List.length_append]; omega)) | exact ld_nums i24 _ _ (by first | assumption | omega | (simp only [List.length_append]; omega)) | exact ld_nums i2 _ _ (by first | assumption | omega) | (show _ ≤ _; omega) | (simp only [List.length_take, List.length_drop, List.length_append, List.length_cons, List.length_nil]; omega) | ((repeat' (first | exact trivial | exact rfl | exact Nat.le_of_ble_eq_true rfl | refine And.intro ?_ ?_ | fail)); done) | ((try simp (disch := omega) only [NS, Nat.reduceBEq, Nat.reduceAdd, Nat.reduceMul, TY, slx, S17, T17, hsh, hlb, han, e1]); (repeat' (first | exact trivial | exact rfl | exact ⟨_, _, rfl⟩ | exact ⟨_, rfl⟩ | exact Nat.le_of_ble_eq_true rfl | exact Nat.zero_lt_succ _ | omega | refine And.intro ?_ ?_ | fail)); done)); done))))
          | (refine AWL.guard2 rfl rfl rfl rfl rfl rfl ?_ ?_ <;> (intro hc; (try simp only [Bool.not_true, Bool.not_false] at hc); first | (cases hc; done) | ((try simp only [hc]); (try simp only [beq_iff_eq, bne_iff_ne, decide_eq_true_eq, decide_eq_false_iff_not, beq_eq_false_iff_ne, bne_eq_false_iff_eq, ne_eq, Bool.not_eq_true, Bool.not_eq_false, Bool.not_eq_eq_eq_not, Bool.not_true, Bool.not_false, Decidable.not_not, Int.not_lt, Int.not_le] at hc); (try (exfalso; omega)); (try (guard_hyp hc : True; clear hc)))))
          | (refine AWL.guard2 rfl rfl rfl rfl rfl rfl (fun hc => ?_) ?_; (cases hc; done))
          | (refine AW.drawn false hmix ?_ ?_; (focus kernel_rfl))
          | (refine AWL.guardU rfl rfl rfl rfl rfl rfl ?_; (try simp (disch := omega) only [NS, Nat.reduceBEq, Nat.reduceAdd, Nat.reduceMul, TY, slx, S17, T17, hsh, hlb, han, e1]))
          | (refine DQ.guardU rfl rfl rfl rfl rfl rfl rfl ?_; (try simp (disch := omega) only [NS, Nat.reduceBEq, Nat.reduceAdd, Nat.reduceMul, TY, slx, S17, T17, hsh, hlb, han, e1]))
          | refine DQ.tail rfl ?_
          | (refine DQ.guard2 rfl rfl rfl rfl rfl rfl rfl ?_ ?_ <;> (intro hc; (try simp only [Bool.not_true, Bool.not_false] at hc); first | (cases hc; done) | ((try simp only [hc]); (try simp only [beq_iff_eq, bne_iff_ne, decide_eq_true_eq, decide_eq_false_iff_not, beq_eq_false_iff_ne, bne_eq_false_iff_eq, ne_eq, Bool.not_eq_true, Bool.not_eq_false, Bool.not_eq_eq_eq_not, Bool.not_true, Bool.not_false, Decidable.not_not, Int.not_lt, Int.not_le] at hc); (try (exfalso; omega)); (try (guard_hyp hc : True; clear hc)))))
          | (refine AW.cond rfl (fun hc => ?_) (fun hc => ?_) <;> first | (cases hc; done) | ((try simp only [beq_iff_eq, bne_iff_ne, decide_eq_true_eq, decide_eq_false_iff_not, beq_eq_false_iff_ne, bne_eq_false_iff_eq, ne_eq, Bool.not_eq_true, Bool.not_eq_false, Bool.not_eq_eq_eq_not, Bool.not_true, Bool.not_false, Decidable.not_not, Int.not_lt, Int.not_le] at hc); (try (exfalso; omega)); (try (guard_hyp hc : True; clear hc))))
          | (refine EndQ.mk rfl rfl rfl ?_ ?_ ?_; (focus (first | exact Or.inl rfl | exact Or.inr rfl)); (focus ((first | exact trivial | omega | exact ld_nums i3 _ _ (by first | assumption | omega | (simp only [List.length_append]; omega)) | exact ld_nums i5 _ _ (by first | assumption | omega | (simp only [List.length_append]; omega)) | exact ld_nums i24 _ _ (by first | assumption | omega | (simp only [List.length_append]; omega)) | exact ld_nums i2 _ _ (by first | assumption | omega) | (show _ ≤ _; omega) | (simp only [List.length_take, List.length_drop, List.length_append, List.length_cons, List.length_nil]; omega) | ((repeat' (first | exact trivial | exact rfl | exact Nat.le_of_ble_eq_true rfl | refine And.intro ?_ ?_ | fail)); done) | ((try simp (disch := omega) only [NS, Nat.reduceBEq, Nat.reduceAdd, Nat.reduceMul, TY, slx, S17, T17, hsh, hlb, han, e1]); (repeat' (first | exact trivial | exact rfl | exact ⟨_, _, rfl⟩ | exact ⟨_, rfl⟩ | exact Nat.le_of_ble_eq_true rfl | exact Nat.zero_lt_succ _ | omega | refine And.intro ?_ ?_ | fail)); done)); done)); (try simp (disch := omega) only [NS, Nat.reduceBEq, Nat.reduceAdd, Nat.reduceMul, TY, slx, S17, T17, hsh, hlb, han, e1]))
          | fail)
        all_goals try simp (disch := omega) only [NS, Nat.reduceBEq, Nat.reduceAdd, Nat.reduceMul, TY, slx, S17, T17, hsh, hlb, han, e1]
        all_goals first
          | (have hn : ¬(-64 ≤ n ∧ n ≤ 63) := by omega
             refine ⟨(n / 128).natAbs, by omega, n / 128, _, o ++ [n % 128 + 128], ?_, rfl, by omega, by rw [List.length_append], ?_⟩
             · rfl
             · rw [he, putS_big hn, List.append_assoc]; rfl)
          | (have hn : -64 ≤ n ∧ n ≤ 63 := by omega
             have e2 : putSs (xs.take (k + 1)) = o ++ [n % 128] := by
               rw [take_snoc _ _ hkl, putSs_append]
               simp only [putSs, List.append_nil]
               rw [he, putS_small hn]
             refine ⟨xs.length - (k + 1), by omega, k + 1, _, _, _, ?_, by omega, rfl, rfl, rfl, rfl⟩
             rw [e2, wrap64_id _ (by omega) (by omega), List.length_append]; rfl)
    · repeat' (first
        | refine AW.seq ?_
        | refine AW.block ?_
        | refine AW.region ?_
        | (refine AW.skip ?_; (try simp only [thenQ, blockQ, ↓reduceIte, Nat.reduceEqDiff]))
        | (refine AW.ret ?_; (try simp only [thenQ, blockQ, ↓reduceIte, Nat.reduceEqDiff]))
        | (refine AW.exit ?_; (try simp only [thenQ, blockQ, ↓reduceIte, Nat.reduceEqDiff]))
        | (refine AWL.nil ?_; (try simp only [thenQ, blockQ, ↓reduceIte, Nat.reduceEqDiff]))
        | (refine DQ.nil ?_; (try simp only [thenQ, blockQ, ↓reduceIte, Nat.reduceEqDiff]))
        | ((first
          | (refine AWL.op (sl := SL) rfl rfl ?_ ?_)
          | (refine DQ.op rfl rfl rfl rfl rfl ?_ ?_)
          | (refine DQ.yes rfl ?_ ?_)
          | (refine DQ.step rfl rfl rfl rfl (QStep.assign rfl) ?_)
          | fail) <;> (first | ((first | show AWL _ _ _ _ _ | show DQ _ _ _ _ _ _ | show AW _ _ _ _ | (rintro _ _ ⟨rfl, rfl⟩; (try refine And.intro rfl ?_))); (try simp (disch := omega) only [NS, Nat.reduceBEq, Nat.reduceAdd, Nat.reduceMul, TY, slx, S17, T17])) | (focus ((first | exact trivial | omega | exact ld_nums i3 _ _ (by first | assumption | omega | (simp only [List.length_append]; omega)) | exact ld_nums i5 _ _ (by first | assumption | omega | (simp only [List.length_append]; omega)) | exact ld_nums i24 _ _ (by first | assumption | omega | (simp only [List.length_append]; omega)) | exact ld_nums i2 _ _ (by first | assumption | omega) | (show _ ≤ _; omega) | (simp only [List.length_take, List.length_drop, List.length_append, List.length_cons, List.length_nil]; omega) | ((repeat' (first | exact trivial | exact rfl | exact Nat.le_of_ble_eq_true rfl | refine And.intro ?_ ?_ | fail)); done) | ((try simp (disch := omega) only [NS, Nat.reduceBEq, Nat.reduceAdd, Nat.reduceMul, TY, slx, S17, T17]); (repeat' (first | exact trivial | exact rfl | exact ⟨_, _, rfl⟩ | exact ⟨_, rfl⟩ | exact Nat.le_of_ble_eq_true rfl | exact Nat.zero_lt_succ _ | omega | refine And.intro ?_ ?_ | fail)); done)); done))))
        | (refine AWL.guard2 rfl rfl rfl rfl rfl rfl ?_ ?_ <;> (intro hc; (try simp only [Bool.not_true, Bool.not_false] at hc); first | (cases hc; done) | ((try simp only [hc]); (try simp only [beq_iff_eq, bne_iff_ne, decide_eq_true_eq, decide_eq_false_iff_not, beq_eq_false_iff_ne, bne_eq_false_iff_eq, ne_eq, Bool.not_eq_true, Bool.not_eq_false, Bool.not_eq_eq_eq_not, Bool.not_true, Bool.not_false, Decidable.not_not, Int.not_lt, Int.not_le] at hc); (try (exfalso; omega)); (try (guard_hyp hc : True; clear hc)))))
        | (refine AWL.guard2 rfl rfl rfl rfl rfl rfl (fun hc => ?_) ?_; (cases hc; done))
        | (refine AW.drawn false hmix ?_ ?_; (focus kernel_rfl))
        | (refine AWL.guardU rfl rfl rfl rfl rfl rfl ?_; (try simp (disch := omega) only [NS, Nat.reduceBEq, Nat.reduceAdd, Nat.reduceMul, TY, slx, S17, T17]))
        | (refine DQ.guardU rfl rfl rfl rfl rfl rfl rfl ?_; (try simp (disch := omega) only [NS, Nat.reduceBEq, Nat.reduceAdd, Nat.reduceMul, TY, slx, S17, T17]))
        | refine DQ.tail rfl ?_
        | (refine DQ.guard2 rfl rfl rfl rfl rfl rfl rfl ?_ ?_ <;> (intro hc; (try simp only [Bool.not_true, Bool.not_false] at hc); first | (cases hc; done) | ((try simp only [hc]); (try simp only [beq_iff_eq, bne_iff_ne, decide_eq_true_eq, decide_eq_false_iff_not, beq_eq_false_iff_ne, bne_eq_false_iff_eq, ne_eq, Bool.not_eq_true, Bool.not_eq_false, Bool.not_eq_eq_eq_not, Bool.not_true, Bool.not_false, Decidable.not_not, Int.not_lt, Int.not_le] at hc); (try (exfalso; omega)); (try (guard_hyp hc : True; clear hc)))))
        | (refine AW.cond rfl (fun hc => ?_) (fun hc => ?_) <;> first | (cases hc; done) | ((try simp only [beq_iff_eq, bne_iff_ne, decide_eq_true_eq, decide_eq_false_iff_not, beq_eq_false_iff_ne, bne_eq_false_iff_eq, ne_eq, Bool.not_eq_true, Bool.not_eq_false, Bool.not_eq_eq_eq_not, Bool.not_true, Bool.not_false, Decidable.not_not, Int.not_lt, Int.not_le] at hc); (try (exfalso; omega)); (try (guard_hyp hc : True; clear hc))))
        | (refine EndQ.mk rfl rfl rfl ?_ ?_ ?_; (focus (first | exact Or.inl rfl | exact Or.inr rfl)); (focus ((first | exact trivial | omega | exact ld_nums i3 _ _ (by first | assumption | omega | (simp only [List.length_append]; omega)) | exact ld_nums i5 _ _ (by first | assumption | omega | (simp only [List.length_append]; omega)) | exact ld_nums i24 _ _ (by first | assumption | omega | (simp only [List.length_append]; omega)) | exact ld_nums i2 _ _ (by first | assumption | omega) | (show _ ≤ _; omega) | (simp only [List.length_take, List.length_drop, List.length_append, List.length_cons, List.length_nil]; omega) | ((repeat' (first | exact trivial | exact rfl | exact Nat.le_of_ble_eq_true rfl | refine And.intro ?_ ?_ | fail)); done) | ((try simp (disch := omega) only [NS, Nat.reduceBEq, Nat.reduceAdd, Nat.reduceMul, TY, slx, S17, T17]); (repeat' (first | exact trivial | exact rfl | exact ⟨_, _, rfl⟩ | exact ⟨_, rfl⟩ | exact Nat.le_of_ble_eq_true rfl | exact Nat.zero_lt_succ _ | omega | refine And.intro ?_ ?_ | fail)); done)); done)); (try simp (disch := omega) only [NS, Nat.reduceBEq, Nat.reduceAdd, Nat.reduceMul, TY, slx, S17, T17]))
        | fail)
      all_goals try simp (disch := omega) only [NS, Nat.reduceBEq, Nat.reduceAdd, Nat.reduceMul, TY, slx, S17, T17]
      · rw [List.take_of_length_le (by omega)]; exact ⟨rfl, rfl⟩
      all_goals (exfalso; omega)
end Go.Proofs.Yticidhkilfkgbaa
