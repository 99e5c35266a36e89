/- The document's read. -/
import Derived.Test.YticidhkilfkgbaaV4
import Derived.Test.YticidhkilfkgbaaRefpre
namespace Go.Proofs.Yticidhkilfkgbaa
set_option linter.unusedSimpArgs false
set_option linter.unusedVariables false
open Go Go.Abs
attribute [local irreducible] AW AWL AC DQ IntKind.wrap

def T20 (xs : List Int) (at_ bits : Int) (sg : Bool) (n : Nat) (c : List V) (k : Int) : St :=
  { n := 103, slots := [(0, .view xs.length 1 (nums .u8 xs)), (1, .int .i64 at_), (2, .int .i64 bits), (3, .bool sg), (8, .ref 8 0 0 1), (11, .ref 11 0 n 1), (12, .int .i64 k)], mem := [(11, ⟨true, c⟩)] }
def S20 (xs : List Int) (at_ bits : Int) (sg : Bool) (n : Nat) (c : List V) (k x i : Int) : St :=
  { n := 103, slots := [(0, .view xs.length 1 (nums .u8 xs)), (1, .int .i64 at_), (2, .int .i64 bits), (3, .bool sg), (8, .ref 8 0 0 1), (11, .ref 11 0 n 1), (12, .int .i64 k), (13, .int .u8 x), (14, .int .i64 i)], mem := [(11, ⟨true, c⟩)] }
set_option maxRecDepth 4000 in
set_option maxHeartbeats 1500000 in
theorem read_ok (xs : List Int) (hb : bytes xs) (hlen : xs.length ≤ 1000000000000000) (at_ bits : Int) (sg : Bool) :
    AC Try.prog 20 [.view xs.length 1 (nums .u8 xs), .int .i64 at_, .int .i64 bits, .bool sg] (fun r m => r = .tup [.ref 8 0 (rSpec sg xs at_ bits).1.length 1, .int .i64 (rSpec sg xs at_ bits).2.1, .int .i64 (rSpec sg xs at_ bits).2.2] ∧ m = [(8, nums .i64 (rSpec sg xs at_ bits).1)]) := by
  refine AC.enter Try.func20 rfl (Nat.le_of_ble_eq_true rfl) ?_
  simp only [Try.f20]
  repeat' (first
    | refine AW.seq ?_
    | refine AW.block ?_
    | refine AW.region ?_
    | (refine AW.skip ?_; (try simp only [thenQ, blockQ, ↓reduceIte, Nat.reduceEqDiff]))
    | (refine AW.ret ?_; (try simp only [thenQ, blockQ, ↓reduceIte, Nat.reduceEqDiff]))
    | (refine AW.exit ?_; (try simp only [thenQ, blockQ, ↓reduceIte, Nat.reduceEqDiff]))
    | (refine AWL.nil ?_; (try simp only [thenQ, blockQ, ↓reduceIte, Nat.reduceEqDiff]))
    | (refine DQ.nil ?_; (try simp only [thenQ, blockQ, ↓reduceIte, Nat.reduceEqDiff]))
    | ((first
      | (refine AWL.op (sl := SL) rfl rfl ?_ ?_)
      | (refine DQ.op rfl rfl rfl rfl rfl ?_ ?_)
      | (refine DQ.yes rfl ?_ ?_)
      | (refine DQ.step rfl rfl rfl rfl (QStep.assign rfl) ?_)
      | (refine AWL.frzA rfl rfl ?_)
      | (refine AWL.callV (f := 22) rfl rfl rfl rfl ?_ (Nat.le_of_ble_eq_true rfl) rfl (bit_ok _ ?_ _ ?_) ?_; (focus kernel_rfl))
      | (refine AWL.call (f := 22) rfl rfl rfl ?_ rfl (Nat.le_of_ble_eq_true rfl) rfl (bit_ok _ ?_ _ ?_) ?_; (focus kernel_rfl))
      | (refine CWr.call (f := 22) rfl ?_ rfl (bit_ok _ ?_ _ ?_) (fun _ _ h => h) ?_ ?_ ?_; (focus kernel_rfl))
      | (refine DQ.step rfl rfl rfl rfl (QStep.call (f := 22) rfl ?_ rfl (bit_ok _ ?_ _ ?_) (fun _ _ h => h) (fun _ => rfl)) ?_; (focus kernel_rfl))
      | (refine DQ.yesC (QStep.call (f := 22) rfl ?_ rfl (bit_ok _ ?_ _ ?_) (fun _ _ h => h) (fun _ => rfl)) ?_; (focus kernel_rfl))
      | fail) <;> (first | ((first | show AWL _ _ _ _ _ | show DQ _ _ _ _ _ _ | show AW _ _ _ _ | (rintro _ _ ⟨rfl, rfl⟩; (try refine And.intro rfl ?_))); (try simp (disch := omega) only [NS, Nat.reduceBEq, Nat.reduceAdd, Nat.reduceMul, TY, slx, S20, T20])) | (focus ((first | exact trivial | omega | exact ld_nums i3 _ _ (by first | assumption | omega | (simp only [List.length_append]; omega)) | exact ld_nums i5 _ _ (by first | assumption | omega | (simp only [List.length_append]; omega)) | exact ld_nums i24 _ _ (by first | assumption | omega | (simp only [List.length_append]; omega)) | assumption | (show _ ≤ _; omega) | (simp only [List.length_take, List.length_drop, List.length_append, List.length_cons, List.length_nil]; omega) | ((repeat' (first | exact trivial | exact rfl | exact Nat.le_of_ble_eq_true rfl | refine And.intro ?_ ?_ | fail)); done) | ((try simp (disch := omega) only [NS, Nat.reduceBEq, Nat.reduceAdd, Nat.reduceMul, TY, slx, S20, T20]); (repeat' (first | exact trivial | exact rfl | exact ⟨_, _, rfl⟩ | exact ⟨_, rfl⟩ | exact Nat.le_of_ble_eq_true rfl | exact Nat.zero_lt_succ _ | omega | exact ld_lt (by omega) | exact ld_ex (by omega) | refine And.intro ?_ ?_ | fail)); done)); done))))
    | (refine AWL.guard2 rfl rfl rfl rfl rfl rfl ?_ ?_ <;> (intro hc; (try simp only [Bool.not_true, Bool.not_false] at hc); first | (cases hc; done) | ((try simp only [hc]); (try simp only [beq_iff_eq, bne_iff_ne, decide_eq_true_eq, decide_eq_false_iff_not, beq_eq_false_iff_ne, bne_eq_false_iff_eq, ne_eq, Bool.not_eq_true, Bool.not_eq_false, Bool.not_eq_eq_eq_not, Bool.not_true, Bool.not_false, Decidable.not_not, Int.not_lt, Int.not_le] at hc); (try (exfalso; omega)); (try (guard_hyp hc : True; clear hc)))))
    | (refine AWL.guard2 rfl rfl rfl rfl rfl rfl (fun hc => ?_) ?_; (cases hc; done))
    | (refine AW.drawn true hmix ?_ ?_; (focus kernel_rfl))
    | (refine AWL.guardU rfl rfl rfl rfl rfl rfl ?_; (try simp (disch := omega) only [NS, Nat.reduceBEq, Nat.reduceAdd, Nat.reduceMul, TY, slx, S20, T20]))
    | (refine DQ.guardU rfl rfl rfl rfl rfl rfl rfl ?_; (try simp (disch := omega) only [NS, Nat.reduceBEq, Nat.reduceAdd, Nat.reduceMul, TY, slx, S20, T20]))
    | refine DQ.tail rfl ?_
    | (refine DQ.guard2 rfl rfl rfl rfl rfl rfl rfl ?_ ?_ <;> (intro hc; (try simp only [Bool.not_true, Bool.not_false] at hc); first | (cases hc; done) | ((try simp only [hc]); (try simp only [beq_iff_eq, bne_iff_ne, decide_eq_true_eq, decide_eq_false_iff_not, beq_eq_false_iff_ne, bne_eq_false_iff_eq, ne_eq, Bool.not_eq_true, Bool.not_eq_false, Bool.not_eq_eq_eq_not, Bool.not_true, Bool.not_false, Decidable.not_not, Int.not_lt, Int.not_le] at hc); (try (exfalso; omega)); (try (guard_hyp hc : True; clear hc)))))
    | (refine AW.cond rfl (fun hc => ?_) (fun hc => ?_) <;> first | (cases hc; done) | ((try simp only [beq_iff_eq, bne_iff_ne, decide_eq_true_eq, decide_eq_false_iff_not, beq_eq_false_iff_ne, bne_eq_false_iff_eq, ne_eq, Bool.not_eq_true, Bool.not_eq_false, Bool.not_eq_eq_eq_not, Bool.not_true, Bool.not_false, Decidable.not_not, Int.not_lt, Int.not_le] at hc); (try (exfalso; omega)); (try (guard_hyp hc : True; clear hc))))
    | (refine EndQ.mk rfl rfl rfl ?_ ?_ ?_; (focus (first | exact Or.inl rfl | exact Or.inr rfl)); (focus ((first | exact trivial | omega | exact ld_nums i3 _ _ (by first | assumption | omega | (simp only [List.length_append]; omega)) | exact ld_nums i5 _ _ (by first | assumption | omega | (simp only [List.length_append]; omega)) | exact ld_nums i24 _ _ (by first | assumption | omega | (simp only [List.length_append]; omega)) | assumption | (show _ ≤ _; omega) | (simp only [List.length_take, List.length_drop, List.length_append, List.length_cons, List.length_nil]; omega) | ((repeat' (first | exact trivial | exact rfl | exact Nat.le_of_ble_eq_true rfl | refine And.intro ?_ ?_ | fail)); done) | ((try simp (disch := omega) only [NS, Nat.reduceBEq, Nat.reduceAdd, Nat.reduceMul, TY, slx, S20, T20]); (repeat' (first | exact trivial | exact rfl | exact ⟨_, _, rfl⟩ | exact ⟨_, rfl⟩ | exact Nat.le_of_ble_eq_true rfl | exact Nat.zero_lt_succ _ | omega | exact ld_lt (by omega) | exact ld_ex (by omega) | refine And.intro ?_ ?_ | fail)); done)); done)); (try simp (disch := omega) only [NS, Nat.reduceBEq, Nat.reduceAdd, Nat.reduceMul, TY, slx, S20, T20]))
    | fail)
  · rw [rSpec, if_pos (by omega)]; exact ⟨rfl, rfl⟩
  · obtain ⟨a0, rfl⟩ : ∃ a0 : Nat, at_ = a0 := ⟨at_.toNat, by omega⟩
    have hsp : rSpec sg xs a0 bits = rRd sg bits (xs.drop (a0 + 0)) 0 [] (((a0 + 0 : Nat)) : Int) := by rw [rSpec, if_neg (by omega), Int.toNat_natCast]; rfl
    refine AW.loop [0, 1, 2, 3, 8, 11, 12] [11] (fun w st => ∃ (k : Nat) (l : List Int), st = T20 xs a0 bits sg l.length (nums .i64 l) k ∧ a0 + k ≤ xs.length ∧ w = xs.length - (a0 + k) ∧ 7 * (k : Int) < bits ∧ l.length = 7 * k ∧ rSpec sg xs a0 bits = rRd sg bits (xs.drop (a0 + k)) k l (((a0 + k : Nat)) : Int)) ?_ ?_
    · exact ⟨_, 0, [], rfl, by omega, rfl, by omega, rfl, hsp⟩
    · rintro w st ⟨k, l, rfl, ha, rfl, hkb, hl, hs⟩
      by_cases hal : a0 + k < xs.length
      · have hx := hb _ (getD_mem hal)
        rw [drop_getD hal] at hs
        simp only [rRd] at hs
        have hW : IntKind.i64.wrap ((a0 : Int) + (k : Int)) = ((a0 + k : Nat) : Int) := wrap64_id _ (by omega) (by omega)
        have hM : IntKind.i64.wrap (7 * (k : Int)) = ((7 * k : Nat) : Int) := wrap64_id _ (by omega) (by omega)
        have hW3 : IntKind.i64.wrap (((a0 + k : Nat) : Int) + 1) = ((a0 + k : Nat) : Int) + 1 := wrap64_id _ (by omega) (by omega)
        have hM3 : IntKind.i64.wrap (7 * IntKind.i64.wrap ((k : Int) + 1)) = 7 * ((k : Int) + 1) := by rw [wrap64_id ((k : Int) + 1) (by omega) (by omega)]; exact wrap64_id _ (by omega) (by omega)
        have hB : IntKind.i64.wrap (bits - 1) = (((bits - 1).toNat : Nat) : Int) := by rw [wrap64_id _ (by omega) (by omega)]; omega
        repeat' (first
          | refine AW.seq ?_
          | refine AW.block ?_
          | refine AW.region ?_
          | (refine AW.skip ?_; (try simp only [thenQ, blockQ, ↓reduceIte, Nat.reduceEqDiff]))
          | (refine AW.ret ?_; (try simp only [thenQ, blockQ, ↓reduceIte, Nat.reduceEqDiff]))
          | (refine AW.exit ?_; (try simp only [thenQ, blockQ, ↓reduceIte, Nat.reduceEqDiff]))
          | (refine AWL.nil ?_; (try simp only [thenQ, blockQ, ↓reduceIte, Nat.reduceEqDiff]))
          | (refine DQ.nil ?_; (try simp only [thenQ, blockQ, ↓reduceIte, Nat.reduceEqDiff]))
          | ((first
            | (refine AWL.op (sl := SL) rfl rfl ?_ ?_)
            | (refine DQ.op rfl rfl rfl rfl rfl ?_ ?_)
            | (refine DQ.yes rfl ?_ ?_)
            | (refine DQ.step rfl rfl rfl rfl (QStep.assign rfl) ?_)
            | (refine AWL.frzA rfl rfl ?_)
            | (refine AWL.callV (f := 22) rfl rfl rfl rfl ?_ (Nat.le_of_ble_eq_true rfl) rfl (bit_ok _ ?_ _ ?_) ?_; (focus kernel_rfl))
            | (refine AWL.call (f := 22) rfl rfl rfl ?_ rfl (Nat.le_of_ble_eq_true rfl) rfl (bit_ok _ ?_ _ ?_) ?_; (focus kernel_rfl))
            | (refine CWr.call (f := 22) rfl ?_ rfl (bit_ok _ ?_ _ ?_) (fun _ _ h => h) ?_ ?_ ?_; (focus kernel_rfl))
            | (refine DQ.step rfl rfl rfl rfl (QStep.call (f := 22) rfl ?_ rfl (bit_ok _ ?_ _ ?_) (fun _ _ h => h) (fun _ => rfl)) ?_; (focus kernel_rfl))
            | (refine DQ.yesC (QStep.call (f := 22) rfl ?_ rfl (bit_ok _ ?_ _ ?_) (fun _ _ h => h) (fun _ => rfl)) ?_; (focus kernel_rfl))
            | fail) <;> (first | ((first | show AWL _ _ _ _ _ | show DQ _ _ _ _ _ _ | show AW _ _ _ _ | (rintro _ _ ⟨rfl, rfl⟩; (try refine And.intro rfl ?_))); (try simp (disch := omega) only [NS, Nat.reduceBEq, Nat.reduceAdd, Nat.reduceMul, TY, slx, S20, T20, hW])) | (focus ((first | exact trivial | omega | exact ld_nums i3 _ _ (by first | assumption | omega | (simp only [List.length_append]; omega)) | exact ld_nums i5 _ _ (by first | assumption | omega | (simp only [List.length_append]; omega)) | exact ld_nums i24 _ _ (by first | assumption | omega | (simp only [List.length_append]; omega)) | assumption | (show _ ≤ _; omega) | (simp only [List.length_take, List.length_drop, List.length_append, List.length_cons, List.length_nil]; omega) | ((repeat' (first | exact trivial | exact rfl | exact Nat.le_of_ble_eq_true rfl | refine And.intro ?_ ?_ | fail)); done) | ((try simp (disch := omega) only [NS, Nat.reduceBEq, Nat.reduceAdd, Nat.reduceMul, TY, slx, S20, T20, hW]); (repeat' (first | exact trivial | exact rfl | exact ⟨_, _, rfl⟩ | exact ⟨_, rfl⟩ | exact Nat.le_of_ble_eq_true rfl | exact Nat.zero_lt_succ _ | omega | exact ld_lt (by omega) | exact ld_ex (by omega) | refine And.intro ?_ ?_ | fail)); done)); done))))
          | (refine AWL.guard2 rfl rfl rfl rfl rfl rfl ?_ ?_ <;> (intro hc; (try simp only [Bool.not_true, Bool.not_false] at hc); first | (cases hc; done) | ((try simp only [hc]); (try simp only [beq_iff_eq, bne_iff_ne, decide_eq_true_eq, decide_eq_false_iff_not, beq_eq_false_iff_ne, bne_eq_false_iff_eq, ne_eq, Bool.not_eq_true, Bool.not_eq_false, Bool.not_eq_eq_eq_not, Bool.not_true, Bool.not_false, Decidable.not_not, Int.not_lt, Int.not_le] at hc); (try (exfalso; omega)); (try (guard_hyp hc : True; clear hc)))))
          | (refine AWL.guard2 rfl rfl rfl rfl rfl rfl (fun hc => ?_) ?_; (cases hc; done))
          | (refine AW.drawn true hmix ?_ ?_; (focus kernel_rfl))
          | (refine AWL.guardU rfl rfl rfl rfl rfl rfl ?_; (try simp (disch := omega) only [NS, Nat.reduceBEq, Nat.reduceAdd, Nat.reduceMul, TY, slx, S20, T20, hW]))
          | (refine DQ.guardU rfl rfl rfl rfl rfl rfl rfl ?_; (try simp (disch := omega) only [NS, Nat.reduceBEq, Nat.reduceAdd, Nat.reduceMul, TY, slx, S20, T20, hW]))
          | refine DQ.tail rfl ?_
          | (refine DQ.guard2 rfl rfl rfl rfl rfl rfl rfl ?_ ?_ <;> (intro hc; (try simp only [Bool.not_true, Bool.not_false] at hc); first | (cases hc; done) | ((try simp only [hc]); (try simp only [beq_iff_eq, bne_iff_ne, decide_eq_true_eq, decide_eq_false_iff_not, beq_eq_false_iff_ne, bne_eq_false_iff_eq, ne_eq, Bool.not_eq_true, Bool.not_eq_false, Bool.not_eq_eq_eq_not, Bool.not_true, Bool.not_false, Decidable.not_not, Int.not_lt, Int.not_le] at hc); (try (exfalso; omega)); (try (guard_hyp hc : True; clear hc)))))
          | (refine AW.cond rfl (fun hc => ?_) (fun hc => ?_) <;> first | (cases hc; done) | ((try simp only [beq_iff_eq, bne_iff_ne, decide_eq_true_eq, decide_eq_false_iff_not, beq_eq_false_iff_ne, bne_eq_false_iff_eq, ne_eq, Bool.not_eq_true, Bool.not_eq_false, Bool.not_eq_eq_eq_not, Bool.not_true, Bool.not_false, Decidable.not_not, Int.not_lt, Int.not_le] at hc); (try (exfalso; omega)); (try (guard_hyp hc : True; clear hc))))
          | (refine EndQ.mk rfl rfl rfl ?_ ?_ ?_; (focus (first | exact Or.inl rfl | exact Or.inr rfl)); (focus ((first | exact trivial | omega | exact ld_nums i3 _ _ (by first | assumption | omega | (simp only [List.length_append]; omega)) | exact ld_nums i5 _ _ (by first | assumption | omega | (simp only [List.length_append]; omega)) | exact ld_nums i24 _ _ (by first | assumption | omega | (simp only [List.length_append]; omega)) | assumption | (show _ ≤ _; omega) | (simp only [List.length_take, List.length_drop, List.length_append, List.length_cons, List.length_nil]; omega) | ((repeat' (first | exact trivial | exact rfl | exact Nat.le_of_ble_eq_true rfl | refine And.intro ?_ ?_ | fail)); done) | ((try simp (disch := omega) only [NS, Nat.reduceBEq, Nat.reduceAdd, Nat.reduceMul, TY, slx, S20, T20, hW]); (repeat' (first | exact trivial | exact rfl | exact ⟨_, _, rfl⟩ | exact ⟨_, rfl⟩ | exact Nat.le_of_ble_eq_true rfl | exact Nat.zero_lt_succ _ | omega | exact ld_lt (by omega) | exact ld_ex (by omega) | refine And.intro ?_ ?_ | fail)); done)); done)); (try simp (disch := omega) only [NS, Nat.reduceBEq, Nat.reduceAdd, Nat.reduceMul, TY, slx, S20, T20, hW]))
          | fail)
        refine AW.loop [0, 1, 2, 3, 8, 11, 12, 13, 14] [11] (fun w st => ∃ (i n : Nat) (c : List V), st = S20 xs a0 bits sg n c k (xs.getD (a0 + k) 0) i ∧ i ≤ 7 ∧ w = 7 - i ∧ n = 7 * k + i ∧ c = nums .i64 (l ++ (bits7 (xs.getD (a0 + k) 0)).take i) ∧ (∀ j, j < i → ¬badAt sg bits k (xs.getD (a0 + k) 0) l j)) ?_ ?_
        · exact ⟨_, 0, l.length, _, rfl, by omega, rfl, by omega, by rw [List.take_zero, List.append_nil], fun j hj => absurd hj (Nat.not_lt_zero _)⟩
        · rintro w st ⟨i, n, c, rfl, hi, rfl, rfl, rfl, hbad⟩
          have hW2 : IntKind.i64.wrap (((7 * k : Nat) : Int) + (i : Int)) = ((7 * k + i : Nat) : Int) := wrap64_id _ (by omega) (by omega)
          have h7 := bit_7 hx
          have hb7 := bitn_2 (xs.getD (a0 + k) 0) i
          have hT : i < 7 → l ++ (bits7 (xs.getD (a0 + k) 0)).take (i + 1) = (l ++ (bits7 (xs.getD (a0 + k) 0)).take i) ++ [bitn (xs.getD (a0 + k) 0) i] := fun h => by rw [bits7_take _ _ h, List.append_assoc]
          have hG : bits ≤ ((7 * k + i : Nat) : Int) → (l ++ (bits7 (xs.getD (a0 + k) 0)).take i).getD (bits - 1).toNat 0 = (l ++ bits7 (xs.getD (a0 + k) 0)).getD (bits - 1).toNat 0 := fun h => getD_take _ _ _ _ (by omega)
          have hnb : i = 7 → ¬ ∃ i, i < 7 ∧ badAt sg bits k (xs.getD (a0 + k) 0) l i := fun h ⟨j, hj, hbj⟩ => hbad j (by omega) hbj
          have hL : i = 7 → l ++ (bits7 (xs.getD (a0 + k) 0)).take i = l ++ bits7 (xs.getD (a0 + k) 0) ∧ 7 * k + i = (l ++ bits7 (xs.getD (a0 + k) 0)).length := fun h => by subst h; exact ⟨rfl, by rw [List.length_append, hl]; rfl⟩
          have hLn : i ≤ 7 → (l ++ (bits7 (xs.getD (a0 + k) 0)).take i).length = 7 * k + i := fun h => by rw [List.length_append, List.length_take, bits7_len]; omega
          have hLn := hLn hi
          have hOw : bits ≤ ((7 * k + i : Nat) : Int) → (nums .i64 (l ++ (bits7 (xs.getD (a0 + k) 0)).take i)).getD (bits - 1).toNat .any = .int .i64 ((l ++ (bits7 (xs.getD (a0 + k) 0)).take i).getD (bits - 1).toNat 0) := fun h => own_getD (by omega)
          have hTk : (l ++ (bits7 (xs.getD (a0 + k) 0)).take i).take (7 * k + i) = l ++ (bits7 (xs.getD (a0 + k) 0)).take i := List.take_of_length_le (by omega)
          have hA2 : (((a0 + (k + 1) : Nat)) : Int) = ((a0 + k : Nat) : Int) + 1 := by omega
          generalize hxe : xs.getD (a0 + k) 0 = x at *
          cases sg
          · repeat' (first
              | refine AW.seq ?_
              | refine AW.block ?_
              | refine AW.region ?_
              | (refine AW.skip ?_; (try simp only [thenQ, blockQ, ↓reduceIte, Nat.reduceEqDiff]))
              | (refine AW.ret ?_; (try simp only [thenQ, blockQ, ↓reduceIte, Nat.reduceEqDiff]))
              | (refine AW.exit ?_; (try simp only [thenQ, blockQ, ↓reduceIte, Nat.reduceEqDiff]))
              | (refine AWL.nil ?_; (try simp only [thenQ, blockQ, ↓reduceIte, Nat.reduceEqDiff]))
              | (refine DQ.nil ?_; (try simp only [thenQ, blockQ, ↓reduceIte, Nat.reduceEqDiff]))
              | ((first
                | (refine AWL.op (sl := SL) rfl rfl ?_ ?_)
                | (refine DQ.op rfl rfl rfl rfl rfl ?_ ?_)
                | (refine DQ.yes rfl ?_ ?_)
                | (refine DQ.step rfl rfl rfl rfl (QStep.assign rfl) ?_)
                | (refine AWL.frzA rfl rfl ?_)
                | (refine AWL.callV (f := 22) rfl rfl rfl rfl ?_ (Nat.le_of_ble_eq_true rfl) rfl (bit_ok _ ?_ _ ?_) ?_; (focus kernel_rfl))
                | (refine AWL.call (f := 22) rfl rfl rfl ?_ rfl (Nat.le_of_ble_eq_true rfl) rfl (bit_ok _ ?_ _ ?_) ?_; (focus kernel_rfl))
                | (refine CWr.call (f := 22) rfl ?_ rfl (bit_ok _ ?_ _ ?_) (fun _ _ h => h) ?_ ?_ ?_; (focus kernel_rfl))
                | (refine DQ.step rfl rfl rfl rfl (QStep.call (f := 22) rfl ?_ rfl (bit_ok _ ?_ _ ?_) (fun _ _ h => h) (fun _ => rfl)) ?_; (focus kernel_rfl))
                | (refine DQ.yesC (QStep.call (f := 22) rfl ?_ rfl (bit_ok _ ?_ _ ?_) (fun _ _ h => h) (fun _ => rfl)) ?_; (focus kernel_rfl))
                | fail) <;> (first | ((first | show AWL _ _ _ _ _ | show DQ _ _ _ _ _ _ | show AW _ _ _ _ | (rintro _ _ ⟨rfl, rfl⟩; (try refine And.intro rfl ?_))); (try simp (disch := omega) only [NS, Nat.reduceBEq, Nat.reduceAdd, Nat.reduceMul, TY, slx, S20, T20, hW, hM, hW2, hB, hW3, hM3, hTk])) | (focus ((first | exact trivial | omega | exact ld_nums i3 _ _ (by first | assumption | omega | (simp only [List.length_append]; omega)) | exact ld_nums i5 _ _ (by first | assumption | omega | (simp only [List.length_append]; omega)) | exact ld_nums i24 _ _ (by first | assumption | omega | (simp only [List.length_append]; omega)) | assumption | (show _ ≤ _; omega) | (simp only [List.length_take, List.length_drop, List.length_append, List.length_cons, List.length_nil]; omega) | ((repeat' (first | exact trivial | exact rfl | exact Nat.le_of_ble_eq_true rfl | refine And.intro ?_ ?_ | fail)); done) | ((try simp (disch := omega) only [NS, Nat.reduceBEq, Nat.reduceAdd, Nat.reduceMul, TY, slx, S20, T20, hW, hM, hW2, hB, hW3, hM3, hTk]); (repeat' (first | exact trivial | exact rfl | exact ⟨_, _, rfl⟩ | exact ⟨_, rfl⟩ | exact Nat.le_of_ble_eq_true rfl | exact Nat.zero_lt_succ _ | omega | exact ld_lt (by omega) | exact ld_ex (by omega) | refine And.intro ?_ ?_ | fail)); done)); done))))
              | (refine AWL.guard2 rfl rfl rfl rfl rfl rfl ?_ ?_ <;> (intro hc; (try simp only [Bool.not_true, Bool.not_false] at hc); first | (cases hc; done) | ((try simp only [hc]); (try simp only [beq_iff_eq, bne_iff_ne, decide_eq_true_eq, decide_eq_false_iff_not, beq_eq_false_iff_ne, bne_eq_false_iff_eq, ne_eq, Bool.not_eq_true, Bool.not_eq_false, Bool.not_eq_eq_eq_not, Bool.not_true, Bool.not_false, Decidable.not_not, Int.not_lt, Int.not_le] at hc); (try (exfalso; omega)); (try (guard_hyp hc : True; clear hc)))))
              | (refine AWL.guard2 rfl rfl rfl rfl rfl rfl (fun hc => ?_) ?_; (cases hc; done))
              | (refine AW.drawn true hmix ?_ ?_; (focus kernel_rfl))
              | (refine AWL.guardU rfl rfl rfl rfl rfl rfl ?_; (try simp (disch := omega) only [NS, Nat.reduceBEq, Nat.reduceAdd, Nat.reduceMul, TY, slx, S20, T20, hW, hM, hW2, hB, hW3, hM3, hTk]))
              | (refine DQ.guardU rfl rfl rfl rfl rfl rfl rfl ?_; (try simp (disch := omega) only [NS, Nat.reduceBEq, Nat.reduceAdd, Nat.reduceMul, TY, slx, S20, T20, hW, hM, hW2, hB, hW3, hM3, hTk]))
              | refine DQ.tail rfl ?_
              | (refine DQ.guard2 rfl rfl rfl rfl rfl rfl rfl ?_ ?_ <;> (intro hc; (try simp only [Bool.not_true, Bool.not_false] at hc); first | (cases hc; done) | ((try simp only [hc]); (try simp only [beq_iff_eq, bne_iff_ne, decide_eq_true_eq, decide_eq_false_iff_not, beq_eq_false_iff_ne, bne_eq_false_iff_eq, ne_eq, Bool.not_eq_true, Bool.not_eq_false, Bool.not_eq_eq_eq_not, Bool.not_true, Bool.not_false, Decidable.not_not, Int.not_lt, Int.not_le] at hc); (try (exfalso; omega)); (try (guard_hyp hc : True; clear hc)))))
              | (refine AW.cond rfl (fun hc => ?_) (fun hc => ?_) <;> first | (cases hc; done) | ((try simp only [beq_iff_eq, bne_iff_ne, decide_eq_true_eq, decide_eq_false_iff_not, beq_eq_false_iff_ne, bne_eq_false_iff_eq, ne_eq, Bool.not_eq_true, Bool.not_eq_false, Bool.not_eq_eq_eq_not, Bool.not_true, Bool.not_false, Decidable.not_not, Int.not_lt, Int.not_le] at hc); (try (exfalso; omega)); (try (guard_hyp hc : True; clear hc))))
              | (refine EndQ.mk rfl rfl rfl ?_ ?_ ?_; (focus (first | exact Or.inl rfl | exact Or.inr rfl)); (focus ((first | exact trivial | omega | exact ld_nums i3 _ _ (by first | assumption | omega | (simp only [List.length_append]; omega)) | exact ld_nums i5 _ _ (by first | assumption | omega | (simp only [List.length_append]; omega)) | exact ld_nums i24 _ _ (by first | assumption | omega | (simp only [List.length_append]; omega)) | assumption | (show _ ≤ _; omega) | (simp only [List.length_take, List.length_drop, List.length_append, List.length_cons, List.length_nil]; omega) | ((repeat' (first | exact trivial | exact rfl | exact Nat.le_of_ble_eq_true rfl | refine And.intro ?_ ?_ | fail)); done) | ((try simp (disch := omega) only [NS, Nat.reduceBEq, Nat.reduceAdd, Nat.reduceMul, TY, slx, S20, T20, hW, hM, hW2, hB, hW3, hM3, hTk]); (repeat' (first | exact trivial | exact rfl | exact ⟨_, _, rfl⟩ | exact ⟨_, rfl⟩ | exact Nat.le_of_ble_eq_true rfl | exact Nat.zero_lt_succ _ | omega | exact ld_lt (by omega) | exact ld_ex (by omega) | refine And.intro ?_ ?_ | fail)); done)); done)); (try simp (disch := omega) only [NS, Nat.reduceBEq, Nat.reduceAdd, Nat.reduceMul, TY, slx, S20, T20, hW, hM, hW2, hB, hW3, hM3, hTk]))
              | fail)
            all_goals try simp (disch := omega) only [NS, Nat.reduceBEq, Nat.reduceAdd, Nat.reduceMul, TY, slx, S20, T20, hW, hM, hW2, hB, hW3, hM3, hTk]
            · refine ⟨7 - (i + 1), by omega, i + 1, _, nums .i64 ((l ++ (bits7 x).take i) ++ [bitn x i]), ?_, by omega, rfl, rfl, by rw [hT (by omega)], ?_⟩
              · rw [wrap64_id _ (by omega) (by omega)]; rfl
              · intro j hj hbj
                by_cases hji : j = i
                · subst hji; exact absurd (hbj.2.2 rfl) (by assumption)
                · exact hbad j (by omega) hbj
            · rw [hs, if_pos (.inl ⟨i, by omega, by omega, fun h => (Bool.noConfusion h), fun _ => by assumption⟩)]; exact ⟨rfl, rfl⟩
            · refine ⟨7 - (i + 1), by omega, i + 1, _, nums .i64 ((l ++ (bits7 x).take i) ++ [bitn x i]), ?_, by omega, rfl, rfl, by rw [hT (by omega)], ?_⟩
              · rw [wrap64_id _ (by omega) (by omega)]; rfl
              · intro j hj hbj
                by_cases hji : j = i
                · subst hji; have := hbj.1; omega
                · exact hbad j (by omega) hbj
            · have hx128 : x ≥ 128 := by
                apply Classical.byContradiction; intro hx; rw [if_neg hx] at h7; omega
              rw [hs, if_pos (.inr ⟨by omega, hx128⟩)]; exact ⟨rfl, rfl⟩
            · have hx128 : x < 128 := by
                apply Classical.byContradiction; intro hx; rw [if_pos (by omega)] at h7; omega
              have hi7 : i = 7 := by omega
              rw [if_neg (by rintro (h | ⟨_, h⟩); exact hnb hi7 h; omega), if_pos hx128] at hs
              rw [hs, (hL hi7).1, (hL hi7).2]; exact ⟨rfl, rfl⟩
            · have hx128 : x < 128 := by
                apply Classical.byContradiction; intro hx; rw [if_pos (by omega)] at h7; omega
              have hi7 : i = 7 := by omega
              rw [if_neg (by rintro (h | ⟨_, h⟩); exact hnb hi7 h; omega), if_pos hx128] at hs
              rw [hs, (hL hi7).1, (hL hi7).2]; exact ⟨rfl, rfl⟩
            · have hx128 : x ≥ 128 := by
                apply Classical.byContradiction; intro hx; rw [if_neg hx] at h7; omega
              have hi7 : i = 7 := by omega
              rw [if_neg (by rintro (h | ⟨h, _⟩); exact hnb hi7 h; omega), if_neg (by omega)] at hs
              refine ⟨xs.length - (a0 + (k + 1)), by omega, k + 1, l ++ bits7 x, ?_, by omega, rfl, by omega, by rw [← (hL hi7).2, hi7]; omega, by rw [hA2]; exact hs⟩
              rw [(hL hi7).1, (hL hi7).2, wrap64_id _ (by omega) (by omega)]; rfl
          · repeat' (first
              | refine AW.seq ?_
              | refine AW.block ?_
              | refine AW.region ?_
              | (refine AW.skip ?_; (try simp only [thenQ, blockQ, ↓reduceIte, Nat.reduceEqDiff]))
              | (refine AW.ret ?_; (try simp only [thenQ, blockQ, ↓reduceIte, Nat.reduceEqDiff]))
              | (refine AW.exit ?_; (try simp only [thenQ, blockQ, ↓reduceIte, Nat.reduceEqDiff]))
              | (refine AWL.nil ?_; (try simp only [thenQ, blockQ, ↓reduceIte, Nat.reduceEqDiff]))
              | (refine DQ.nil ?_; (try simp only [thenQ, blockQ, ↓reduceIte, Nat.reduceEqDiff]))
              | ((first
                | (refine AWL.op (sl := SL) rfl rfl ?_ ?_)
                | (refine DQ.op rfl rfl rfl rfl rfl ?_ ?_)
                | (refine DQ.yes rfl ?_ ?_)
                | (refine DQ.step rfl rfl rfl rfl (QStep.assign rfl) ?_)
                | (refine AWL.frzA rfl rfl ?_)
                | (refine AWL.callV (f := 22) rfl rfl rfl rfl ?_ (Nat.le_of_ble_eq_true rfl) rfl (bit_ok _ ?_ _ ?_) ?_; (focus kernel_rfl))
                | (refine AWL.call (f := 22) rfl rfl rfl ?_ rfl (Nat.le_of_ble_eq_true rfl) rfl (bit_ok _ ?_ _ ?_) ?_; (focus kernel_rfl))
                | (refine CWr.call (f := 22) rfl ?_ rfl (bit_ok _ ?_ _ ?_) (fun _ _ h => h) ?_ ?_ ?_; (focus kernel_rfl))
                | (refine DQ.step rfl rfl rfl rfl (QStep.call (f := 22) rfl ?_ rfl (bit_ok _ ?_ _ ?_) (fun _ _ h => h) (fun _ => rfl)) ?_; (focus kernel_rfl))
                | (refine DQ.yesC (QStep.call (f := 22) rfl ?_ rfl (bit_ok _ ?_ _ ?_) (fun _ _ h => h) (fun _ => rfl)) ?_; (focus kernel_rfl))
                | fail) <;> (first | ((first | show AWL _ _ _ _ _ | show DQ _ _ _ _ _ _ | show AW _ _ _ _ | (rintro _ _ ⟨rfl, rfl⟩; (try refine And.intro rfl ?_))); (try simp (disch := omega) only [NS, Nat.reduceBEq, Nat.reduceAdd, Nat.reduceMul, TY, slx, S20, T20, hW, hM, hW2, hB, hW3, hM3, hTk, hG, hOw])) | (focus ((first | exact trivial | omega | exact ld_nums i3 _ _ (by first | assumption | omega | (simp only [List.length_append]; omega)) | exact ld_nums i5 _ _ (by first | assumption | omega | (simp only [List.length_append]; omega)) | exact ld_nums i24 _ _ (by first | assumption | omega | (simp only [List.length_append]; omega)) | assumption | (show _ ≤ _; omega) | (simp only [List.length_take, List.length_drop, List.length_append, List.length_cons, List.length_nil]; omega) | ((repeat' (first | exact trivial | exact rfl | exact Nat.le_of_ble_eq_true rfl | refine And.intro ?_ ?_ | fail)); done) | ((try simp (disch := omega) only [NS, Nat.reduceBEq, Nat.reduceAdd, Nat.reduceMul, TY, slx, S20, T20, hW, hM, hW2, hB, hW3, hM3, hTk, hG, hOw]); (repeat' (first | exact trivial | exact rfl | exact ⟨_, _, rfl⟩ | exact ⟨_, rfl⟩ | exact Nat.le_of_ble_eq_true rfl | exact Nat.zero_lt_succ _ | omega | exact ld_lt (by omega) | exact ld_ex (by omega) | refine And.intro ?_ ?_ | fail)); done)); done))))
              | (refine AWL.guard2 rfl rfl rfl rfl rfl rfl ?_ ?_ <;> (intro hc; (try simp only [Bool.not_true, Bool.not_false] at hc); first | (cases hc; done) | ((try simp only [hc]); (try simp only [beq_iff_eq, bne_iff_ne, decide_eq_true_eq, decide_eq_false_iff_not, beq_eq_false_iff_ne, bne_eq_false_iff_eq, ne_eq, Bool.not_eq_true, Bool.not_eq_false, Bool.not_eq_eq_eq_not, Bool.not_true, Bool.not_false, Decidable.not_not, Int.not_lt, Int.not_le] at hc); (try (exfalso; omega)); (try (guard_hyp hc : True; clear hc)))))
              | (refine AWL.guard2 rfl rfl rfl rfl rfl rfl (fun hc => ?_) ?_; (cases hc; done))
              | (refine AW.drawn true hmix ?_ ?_; (focus kernel_rfl))
              | (refine AWL.guardU rfl rfl rfl rfl rfl rfl ?_; (try simp (disch := omega) only [NS, Nat.reduceBEq, Nat.reduceAdd, Nat.reduceMul, TY, slx, S20, T20, hW, hM, hW2, hB, hW3, hM3, hTk, hG, hOw]))
              | (refine DQ.guardU rfl rfl rfl rfl rfl rfl rfl ?_; (try simp (disch := omega) only [NS, Nat.reduceBEq, Nat.reduceAdd, Nat.reduceMul, TY, slx, S20, T20, hW, hM, hW2, hB, hW3, hM3, hTk, hG, hOw]))
              | refine DQ.tail rfl ?_
              | (refine DQ.guard2 rfl rfl rfl rfl rfl rfl rfl ?_ ?_ <;> (intro hc; (try simp only [Bool.not_true, Bool.not_false] at hc); first | (cases hc; done) | ((try simp only [hc]); (try simp only [beq_iff_eq, bne_iff_ne, decide_eq_true_eq, decide_eq_false_iff_not, beq_eq_false_iff_ne, bne_eq_false_iff_eq, ne_eq, Bool.not_eq_true, Bool.not_eq_false, Bool.not_eq_eq_eq_not, Bool.not_true, Bool.not_false, Decidable.not_not, Int.not_lt, Int.not_le] at hc); (try (exfalso; omega)); (try (guard_hyp hc : True; clear hc)))))
              | (refine AW.cond rfl (fun hc => ?_) (fun hc => ?_) <;> first | (cases hc; done) | ((try simp only [beq_iff_eq, bne_iff_ne, decide_eq_true_eq, decide_eq_false_iff_not, beq_eq_false_iff_ne, bne_eq_false_iff_eq, ne_eq, Bool.not_eq_true, Bool.not_eq_false, Bool.not_eq_eq_eq_not, Bool.not_true, Bool.not_false, Decidable.not_not, Int.not_lt, Int.not_le] at hc); (try (exfalso; omega)); (try (guard_hyp hc : True; clear hc))))
              | (refine EndQ.mk rfl rfl rfl ?_ ?_ ?_; (focus (first | exact Or.inl rfl | exact Or.inr rfl)); (focus ((first | exact trivial | omega | exact ld_nums i3 _ _ (by first | assumption | omega | (simp only [List.length_append]; omega)) | exact ld_nums i5 _ _ (by first | assumption | omega | (simp only [List.length_append]; omega)) | exact ld_nums i24 _ _ (by first | assumption | omega | (simp only [List.length_append]; omega)) | assumption | (show _ ≤ _; omega) | (simp only [List.length_take, List.length_drop, List.length_append, List.length_cons, List.length_nil]; omega) | ((repeat' (first | exact trivial | exact rfl | exact Nat.le_of_ble_eq_true rfl | refine And.intro ?_ ?_ | fail)); done) | ((try simp (disch := omega) only [NS, Nat.reduceBEq, Nat.reduceAdd, Nat.reduceMul, TY, slx, S20, T20, hW, hM, hW2, hB, hW3, hM3, hTk, hG, hOw]); (repeat' (first | exact trivial | exact rfl | exact ⟨_, _, rfl⟩ | exact ⟨_, rfl⟩ | exact Nat.le_of_ble_eq_true rfl | exact Nat.zero_lt_succ _ | omega | exact ld_lt (by omega) | exact ld_ex (by omega) | refine And.intro ?_ ?_ | fail)); done)); done)); (try simp (disch := omega) only [NS, Nat.reduceBEq, Nat.reduceAdd, Nat.reduceMul, TY, slx, S20, T20, hW, hM, hW2, hB, hW3, hM3, hTk, hG, hOw]))
              | fail)
            all_goals try simp (disch := omega) only [NS, Nat.reduceBEq, Nat.reduceAdd, Nat.reduceMul, TY, slx, S20, T20, hW, hM, hW2, hB, hW3, hM3, hTk, hG, hOw]
            · rw [hs, if_pos (.inl ⟨i, by omega, by omega, fun _ => by assumption, fun h => (Bool.noConfusion h)⟩)]; exact ⟨rfl, rfl⟩
            · refine ⟨7 - (i + 1), by omega, i + 1, _, nums .i64 ((l ++ (bits7 x).take i) ++ [bitn x i]), ?_, by omega, rfl, rfl, by rw [hT (by omega)], ?_⟩
              · rw [wrap64_id _ (by omega) (by omega)]; rfl
              · intro j hj hbj
                by_cases hji : j = i
                · subst hji; exact absurd (by assumption) (hbj.2.1 rfl)
                · exact hbad j (by omega) hbj
            · refine ⟨7 - (i + 1), by omega, i + 1, _, nums .i64 ((l ++ (bits7 x).take i) ++ [bitn x i]), ?_, by omega, rfl, rfl, by rw [hT (by omega)], ?_⟩
              · rw [wrap64_id _ (by omega) (by omega)]; rfl
              · intro j hj hbj
                by_cases hji : j = i
                · subst hji; have := hbj.1; omega
                · exact hbad j (by omega) hbj
            · have hx128 : x ≥ 128 := by
                apply Classical.byContradiction; intro hx; rw [if_neg hx] at h7; omega
              rw [hs, if_pos (.inr ⟨by omega, hx128⟩)]; exact ⟨rfl, rfl⟩
            · have hx128 : x < 128 := by
                apply Classical.byContradiction; intro hx; rw [if_pos (by omega)] at h7; omega
              have hi7 : i = 7 := by omega
              rw [if_neg (by rintro (h | ⟨_, h⟩); exact hnb hi7 h; omega), if_pos hx128] at hs
              rw [hs, (hL hi7).1, (hL hi7).2]; exact ⟨rfl, rfl⟩
            · have hx128 : x < 128 := by
                apply Classical.byContradiction; intro hx; rw [if_pos (by omega)] at h7; omega
              have hi7 : i = 7 := by omega
              rw [if_neg (by rintro (h | ⟨_, h⟩); exact hnb hi7 h; omega), if_pos hx128] at hs
              rw [hs, (hL hi7).1, (hL hi7).2]; exact ⟨rfl, rfl⟩
            · have hx128 : x ≥ 128 := by
                apply Classical.byContradiction; intro hx; rw [if_neg hx] at h7; omega
              have hi7 : i = 7 := by omega
              rw [if_neg (by rintro (h | ⟨h, _⟩); exact hnb hi7 h; omega), if_neg (by omega)] at hs
              refine ⟨xs.length - (a0 + (k + 1)), by omega, k + 1, l ++ bits7 x, ?_, by omega, rfl, by omega, by rw [← (hL hi7).2, hi7]; omega, by rw [hA2]; exact hs⟩
              rw [(hL hi7).1, (hL hi7).2, wrap64_id _ (by omega) (by omega)]; rfl
      · have hW : IntKind.i64.wrap ((a0 : Int) + (k : Int)) = ((a0 + k : Nat) : Int) := wrap64_id _ (by omega) (by omega)
        repeat' (first
          | refine AW.seq ?_
          | refine AW.block ?_
          | refine AW.region ?_
          | (refine AW.skip ?_; (try simp only [thenQ, blockQ, ↓reduceIte, Nat.reduceEqDiff]))
          | (refine AW.ret ?_; (try simp only [thenQ, blockQ, ↓reduceIte, Nat.reduceEqDiff]))
          | (refine AW.exit ?_; (try simp only [thenQ, blockQ, ↓reduceIte, Nat.reduceEqDiff]))
          | (refine AWL.nil ?_; (try simp only [thenQ, blockQ, ↓reduceIte, Nat.reduceEqDiff]))
          | (refine DQ.nil ?_; (try simp only [thenQ, blockQ, ↓reduceIte, Nat.reduceEqDiff]))
          | ((first
            | (refine AWL.op (sl := SL) rfl rfl ?_ ?_)
            | (refine DQ.op rfl rfl rfl rfl rfl ?_ ?_)
            | (refine DQ.yes rfl ?_ ?_)
            | (refine DQ.step rfl rfl rfl rfl (QStep.assign rfl) ?_)
            | (refine AWL.frzA rfl rfl ?_)
            | (refine AWL.callV (f := 22) rfl rfl rfl rfl ?_ (Nat.le_of_ble_eq_true rfl) rfl (bit_ok _ ?_ _ ?_) ?_; (focus kernel_rfl))
            | (refine AWL.call (f := 22) rfl rfl rfl ?_ rfl (Nat.le_of_ble_eq_true rfl) rfl (bit_ok _ ?_ _ ?_) ?_; (focus kernel_rfl))
            | (refine CWr.call (f := 22) rfl ?_ rfl (bit_ok _ ?_ _ ?_) (fun _ _ h => h) ?_ ?_ ?_; (focus kernel_rfl))
            | (refine DQ.step rfl rfl rfl rfl (QStep.call (f := 22) rfl ?_ rfl (bit_ok _ ?_ _ ?_) (fun _ _ h => h) (fun _ => rfl)) ?_; (focus kernel_rfl))
            | (refine DQ.yesC (QStep.call (f := 22) rfl ?_ rfl (bit_ok _ ?_ _ ?_) (fun _ _ h => h) (fun _ => rfl)) ?_; (focus kernel_rfl))
            | fail) <;> (first | ((first | show AWL _ _ _ _ _ | show DQ _ _ _ _ _ _ | show AW _ _ _ _ | (rintro _ _ ⟨rfl, rfl⟩; (try refine And.intro rfl ?_))); (try simp (disch := omega) only [NS, Nat.reduceBEq, Nat.reduceAdd, Nat.reduceMul, TY, slx, S20, T20, hW])) | (focus ((first | exact trivial | omega | exact ld_nums i3 _ _ (by first | assumption | omega | (simp only [List.length_append]; omega)) | exact ld_nums i5 _ _ (by first | assumption | omega | (simp only [List.length_append]; omega)) | exact ld_nums i24 _ _ (by first | assumption | omega | (simp only [List.length_append]; omega)) | assumption | (show _ ≤ _; omega) | (simp only [List.length_take, List.length_drop, List.length_append, List.length_cons, List.length_nil]; omega) | ((repeat' (first | exact trivial | exact rfl | exact Nat.le_of_ble_eq_true rfl | refine And.intro ?_ ?_ | fail)); done) | ((try simp (disch := omega) only [NS, Nat.reduceBEq, Nat.reduceAdd, Nat.reduceMul, TY, slx, S20, T20, hW]); (repeat' (first | exact trivial | exact rfl | exact ⟨_, _, rfl⟩ | exact ⟨_, rfl⟩ | exact Nat.le_of_ble_eq_true rfl | exact Nat.zero_lt_succ _ | omega | exact ld_lt (by omega) | exact ld_ex (by omega) | refine And.intro ?_ ?_ | fail)); done)); done))))
          | (refine AWL.guard2 rfl rfl rfl rfl rfl rfl ?_ ?_ <;> (intro hc; (try simp only [Bool.not_true, Bool.not_false] at hc); first | (cases hc; done) | ((try simp only [hc]); (try simp only [beq_iff_eq, bne_iff_ne, decide_eq_true_eq, decide_eq_false_iff_not, beq_eq_false_iff_ne, bne_eq_false_iff_eq, ne_eq, Bool.not_eq_true, Bool.not_eq_false, Bool.not_eq_eq_eq_not, Bool.not_true, Bool.not_false, Decidable.not_not, Int.not_lt, Int.not_le] at hc); (try (exfalso; omega)); (try (guard_hyp hc : True; clear hc)))))
          | (refine AWL.guard2 rfl rfl rfl rfl rfl rfl (fun hc => ?_) ?_; (cases hc; done))
          | (refine AW.drawn true hmix ?_ ?_; (focus kernel_rfl))
          | (refine AWL.guardU rfl rfl rfl rfl rfl rfl ?_; (try simp (disch := omega) only [NS, Nat.reduceBEq, Nat.reduceAdd, Nat.reduceMul, TY, slx, S20, T20, hW]))
          | (refine DQ.guardU rfl rfl rfl rfl rfl rfl rfl ?_; (try simp (disch := omega) only [NS, Nat.reduceBEq, Nat.reduceAdd, Nat.reduceMul, TY, slx, S20, T20, hW]))
          | refine DQ.tail rfl ?_
          | (refine DQ.guard2 rfl rfl rfl rfl rfl rfl rfl ?_ ?_ <;> (intro hc; (try simp only [Bool.not_true, Bool.not_false] at hc); first | (cases hc; done) | ((try simp only [hc]); (try simp only [beq_iff_eq, bne_iff_ne, decide_eq_true_eq, decide_eq_false_iff_not, beq_eq_false_iff_ne, bne_eq_false_iff_eq, ne_eq, Bool.not_eq_true, Bool.not_eq_false, Bool.not_eq_eq_eq_not, Bool.not_true, Bool.not_false, Decidable.not_not, Int.not_lt, Int.not_le] at hc); (try (exfalso; omega)); (try (guard_hyp hc : True; clear hc)))))
          | (refine AW.cond rfl (fun hc => ?_) (fun hc => ?_) <;> first | (cases hc; done) | ((try simp only [beq_iff_eq, bne_iff_ne, decide_eq_true_eq, decide_eq_false_iff_not, beq_eq_false_iff_ne, bne_eq_false_iff_eq, ne_eq, Bool.not_eq_true, Bool.not_eq_false, Bool.not_eq_eq_eq_not, Bool.not_true, Bool.not_false, Decidable.not_not, Int.not_lt, Int.not_le] at hc); (try (exfalso; omega)); (try (guard_hyp hc : True; clear hc))))
          | (refine EndQ.mk rfl rfl rfl ?_ ?_ ?_; (focus (first | exact Or.inl rfl | exact Or.inr rfl)); (focus ((first | exact trivial | omega | exact ld_nums i3 _ _ (by first | assumption | omega | (simp only [List.length_append]; omega)) | exact ld_nums i5 _ _ (by first | assumption | omega | (simp only [List.length_append]; omega)) | exact ld_nums i24 _ _ (by first | assumption | omega | (simp only [List.length_append]; omega)) | assumption | (show _ ≤ _; omega) | (simp only [List.length_take, List.length_drop, List.length_append, List.length_cons, List.length_nil]; omega) | ((repeat' (first | exact trivial | exact rfl | exact Nat.le_of_ble_eq_true rfl | refine And.intro ?_ ?_ | fail)); done) | ((try simp (disch := omega) only [NS, Nat.reduceBEq, Nat.reduceAdd, Nat.reduceMul, TY, slx, S20, T20, hW]); (repeat' (first | exact trivial | exact rfl | exact ⟨_, _, rfl⟩ | exact ⟨_, rfl⟩ | exact Nat.le_of_ble_eq_true rfl | exact Nat.zero_lt_succ _ | omega | exact ld_lt (by omega) | exact ld_ex (by omega) | refine And.intro ?_ ?_ | fail)); done)); done)); (try simp (disch := omega) only [NS, Nat.reduceBEq, Nat.reduceAdd, Nat.reduceMul, TY, slx, S20, T20, hW]))
          | fail)
        all_goals try simp (disch := omega) only [NS, Nat.reduceBEq, Nat.reduceAdd, Nat.reduceMul, TY, slx, S20, T20, hW]
        · rw [List.drop_of_length_le (by omega)] at hs
          rw [hs]; exact ⟨rfl, rfl⟩
        all_goals (exfalso; omega)
  all_goals (rw [rSpec, if_pos (by omega)]; exact ⟨rfl, rfl⟩)
end Go.Proofs.Yticidhkilfkgbaa
