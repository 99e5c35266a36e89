/- leb.S. -/
import Derived.Test.YticidhkilfkgbaaV4
import Derived.Test.YticidhkilfkgbaaPre
namespace Go.Proofs.Yticidhkilfkgbaa
set_option linter.unusedSimpArgs false
set_option linter.unusedVariables false
open Go Go.Abs

theorem wrap64_of {x : Int} (h0 : 0 ≤ x) (h1 : x < 18446744073709551616) : IntKind.i64.wrap x = if x < 9223372036854775808 then x else x - 18446744073709551616 := by
  have e : x % 18446744073709551616 = x := Int.emod_eq_of_lt h0 h1
  show (if (true && decide (x % 18446744073709551616 ≥ 9223372036854775808)) = true then x % 18446744073709551616 - 18446744073709551616 else x % 18446744073709551616) = _
  rw [e]
  by_cases h : x < 9223372036854775808
  · rw [if_neg (by simp; omega), if_pos h]
  · rw [if_pos (by simp; omega), if_neg h]
theorem or64 {k : Nat} (hk : k ≤ 8) {v low : Int} (hv0 : 0 ≤ v) (hv : v < 2 ^ (7 * k)) (h0 : 0 ≤ low) (h1 : low < 128) :
    bitsOp .or .i64 v (IntKind.i64.wrap (low * 2 ^ (7 * k))) = v + low * 2 ^ (7 * k) ∧ 0 ≤ v + low * 2 ^ (7 * k) ∧ v + low * 2 ^ (7 * k) < 2 ^ (7 * k + 7) := by
  have h2 := pow_lt_mul hv0 hv h0 (m := 7) h1
  have hp : (0 : Int) < 2 ^ (7 * k) := Int.pow_pos (by decide)
  have hn : 0 ≤ low * 2 ^ (7 * k) := Int.mul_nonneg h0 (by omega)
  have h3 : (2 : Int) ^ (7 * k + 7) ≤ 2 ^ 63 := by exact_mod_cast Nat.pow_le_pow_right (by decide) (by omega)
  rw [Go.Abs.wrap_small (k := .i64) hn (by show _ < (2 : Int) ^ 63; omega)]
  exact ⟨or_add (k := .i64) (7 * k) hv0 hv h0 (by show _ < (2 : Int) ^ 64; omega) (.inr (by show _ < (2 : Int) ^ 63; omega)), h2⟩
theorem sgn_step {k : Nat} (hk : k ≤ 8) {v low : Int} (hv0 : 0 ≤ v) (hv : v < 2 ^ (7 * k)) (h0 : 0 ≤ low) (h1 : low < 128) :
    (IntKind.i64.wrap (bitsOp .or .i64 v (IntKind.i64.wrap (low * 2 ^ (7 * k))) * 2 ^ min (if 0 < 57 - 7 * (k : Int) then 57 - 7 * (k : Int) else 0).toNat IntKind.i64.bits)).fdiv (2 ^ min (if 0 < 57 - 7 * (k : Int) then 57 - 7 * (k : Int) else 0).toNat IntKind.i64.bits) = sext (7 * k + 7) (v + low * 2 ^ (7 * k)) := by
  obtain ⟨e, g0, g1⟩ := or64 hk hv0 hv h0 h1
  rw [e]
  generalize v + low * 2 ^ (7 * k) = N at g0 g1
  have hs : min (if 0 < 57 - 7 * (k : Int) then 57 - 7 * (k : Int) else 0).toNat IntKind.i64.bits = 57 - 7 * k := by
    rw [show IntKind.i64.bits = 64 from rfl]; split <;> omega
  rw [hs]
  clear e hs hv hv0 h0 h1
  have : k = 0 ∨ k = 1 ∨ k = 2 ∨ k = 3 ∨ k = 4 ∨ k = 5 ∨ k = 6 ∨ k = 7 ∨ k = 8 := by omega
  rcases this with rfl | rfl | rfl | rfl | rfl | rfl | rfl | rfl | rfl <;>
    (simp only [Nat.reduceMul, Nat.reduceAdd, Nat.reduceSub, Int.reducePow] at g1 ⊢
     rw [wrap64_of (by omega) (by omega), Int.fdiv_eq_ediv_of_nonneg _ (by decide)]
     simp only [sext, Nat.reduceSub, Int.reducePow]
     split <;> split <;> omega)
theorem or_top : ∀ v : Int, 0 ≤ v → v < 2 ^ 63 → bitsOp .or .i64 v (-9223372036854775808) = v - 9223372036854775808 := by
  intro v h0 h1
  simp only [bitsOp]
  rw [BitVec.toNat_or, ofInt_toNat h0 (by show _ < (2 : Int) ^ 64; omega), show (BitVec.ofInt IntKind.i64.bits (-9223372036854775808)).toNat = 1 * 2 ^ 63 from by decide, Nat.or_comm]
  have e := Nat.shiftLeft_add_eq_or_of_lt (b := v.toNat) (i := 63) (by omega) 1
  rw [Nat.shiftLeft_eq] at e
  rw [← e, wrap64_of (by omega) (by omega), if_neg (by omega)]
  omega
theorem sgn_last {v low : Int} (hv0 : 0 ≤ v) (hv : v < 2 ^ (7 * 9)) (h : low = 0 ∨ low = 127) :
    (IntKind.i64.wrap (bitsOp .or .i64 v (IntKind.i64.wrap (low * 2 ^ (7 * 9))) * 2 ^ min (if 0 < 57 - 7 * ((9 : Nat) : Int) then 57 - 7 * ((9 : Nat) : Int) else 0).toNat IntKind.i64.bits)).fdiv (2 ^ min (if 0 < 57 - 7 * ((9 : Nat) : Int) then 57 - 7 * ((9 : Nat) : Int) else 0).toNat IntKind.i64.bits) = sext (7 * 9 + 7) (v + low * 2 ^ (7 * 9)) := by
  rw [if_neg (by decide), show min (Int.toNat 0) IntKind.i64.bits = 0 from rfl]
  simp only [Nat.reduceMul, Nat.reduceAdd, Int.reducePow, Int.mul_one, Int.fdiv_one] at hv ⊢
  rcases h with rfl | rfl
  · rw [Int.zero_mul, show IntKind.i64.wrap 0 = 0 from rfl, show bitsOp .or .i64 v 0 = v from ?_, wrap64_of (by omega) (by omega), if_pos (by omega), sext, if_pos (by simp only [Nat.reduceSub, Int.reducePow]; omega)]
    · omega
    · have := or_add (k := .i64) (a := v) (b := 0) 63 hv0 (by simp only [Int.reducePow]; omega) (by decide) (by show _ < (2 : Int) ^ 64; simp only [Int.reducePow]; omega) (.inr (by show _ < (2 : Int) ^ 63; simp only [Int.reducePow]; omega))
      simpa using this
  · rw [show IntKind.i64.wrap (127 * 9223372036854775808) = -9223372036854775808 from by decide, or_top v hv0 (by simp only [Int.reducePow]; omega), wrap64_id _ (by omega) (by omega), sext, if_neg (by simp only [Nat.reduceSub, Int.reducePow]; omega)]
    simp only [Int.reducePow]; omega
theorem sx_low {bits : Int} {k : Nat} {x : Int} (hb : bits ≤ 64) (hk : 7 * (k : Int) < bits) (h9 : ¬k ≤ 8) (h : bits - 7 * k ≤ 7 → sx x / 2 ^ (bits - 7 * k - 1).toNat = 0 ∨ sx x / 2 ^ (bits - 7 * k - 1).toNat = -1) : k = 9 ∧ (x % 128 = 0 ∨ x % 128 = 127) := by
  obtain rfl : k = 9 := by omega
  obtain rfl : bits = 64 := by omega
  have := h (by decide)
  rw [show ((64 : Int) - 7 * ((9 : Nat) : Int) - 1).toNat = 0 from rfl, Int.pow_zero, Int.ediv_one] at this
  refine ⟨rfl, ?_⟩
  revert this
  unfold sx
  split <;> omega
theorem sgn_all {bits : Int} {k : Nat} {x v : Int} (hb : bits ≤ 64) (hk : 7 * (k : Int) < bits) (hv0 : 0 ≤ v) (hv : v < 2 ^ (7 * k)) (h : bits - 7 * k ≤ 7 → sx x / 2 ^ (bits - 7 * k - 1).toNat = 0 ∨ sx x / 2 ^ (bits - 7 * k - 1).toNat = -1) :
    (IntKind.i64.wrap (bitsOp .or .i64 v (IntKind.i64.wrap (x % 128 * 2 ^ (7 * k))) * 2 ^ min (if 0 < 57 - 7 * (k : Int) then 57 - 7 * (k : Int) else 0).toNat IntKind.i64.bits)).fdiv (2 ^ min (if 0 < 57 - 7 * (k : Int) then 57 - 7 * (k : Int) else 0).toNat IntKind.i64.bits) = sext (7 * k + 7) (v + x % 128 * 2 ^ (7 * k)) := by
  by_cases h9 : k ≤ 8
  · exact sgn_step h9 hv0 hv (by omega) (by omega)
  · obtain ⟨rfl, hl⟩ := sx_low hb hk h9 h
    exact sgn_last hv0 hv hl

attribute [local irreducible] AW AWL AC DQ IntKind.wrap

def S13 (xs : List Int) (bits at_ done n : Int) : St :=
  { n := 83, slots := [(0, .view xs.length 1 (nums .u8 xs)), (1, .int .i64 at_), (2, .int .i64 bits), (9, .int .i64 n), (10, .int .i64 done)], mem := [] }
set_option maxRecDepth 4000 in
set_option maxHeartbeats 1000000 in
theorem s_ok (xs : List Int) (hb : bytes xs) (hlen : xs.length ≤ 1000000000000000) (at_ bits : Int) :
    AC Try.prog 13 [.view xs.length 1 (nums .u8 xs), .int .i64 at_, .int .i64 bits] (fun r m => r = .tup [.int .i64 (sSpec xs at_ bits).1, .int .i64 (sSpec xs at_ bits).2.1, .int .i64 (sSpec xs at_ bits).2.2] ∧ m = []) := by
  refine AC.enter Try.func13 rfl (Nat.le_of_ble_eq_true rfl) ?_
  simp only [Try.f13]
  repeat' (first
    | refine AW.seq ?_
    | refine AW.block ?_
    | refine AW.region ?_
    | (refine AW.skip ?_; (try simp only [thenQ, blockQ, ↓reduceIte, Nat.reduceEqDiff]))
    | (refine AW.ret ?_; (try simp only [thenQ, blockQ, ↓reduceIte, Nat.reduceEqDiff]))
    | (refine AW.exit ?_; (try simp only [thenQ, blockQ, ↓reduceIte, Nat.reduceEqDiff]))
    | (refine AWL.nil ?_; (try simp only [thenQ, blockQ, ↓reduceIte, Nat.reduceEqDiff]))
    | (refine DQ.nil ?_; (try simp only [thenQ, blockQ, ↓reduceIte, Nat.reduceEqDiff]))
    | ((first
      | (refine AWL.op (sl := SL) rfl rfl ?_ ?_)
      | (refine DQ.op rfl rfl rfl rfl rfl ?_ ?_)
      | (refine DQ.yes rfl ?_ ?_)
      | (refine DQ.step rfl rfl rfl rfl (QStep.assign rfl) ?_)
      | fail) <;> (first | ((first | show AWL _ _ _ _ _ | show DQ _ _ _ _ _ _ | show AW _ _ _ _ | (rintro _ _ ⟨rfl, rfl⟩; (try refine And.intro rfl ?_))); (try simp (disch := omega) only [NS, Nat.reduceBEq, Nat.reduceAdd, Nat.reduceMul, TY, slx, S13])) | (focus ((first | exact trivial | omega | exact ld_nums i3 _ _ (by first | assumption | omega | (simp only [List.length_append]; omega)) | exact ld_nums i5 _ _ (by first | assumption | omega | (simp only [List.length_append]; omega)) | exact ld_nums i24 _ _ (by first | assumption | omega | (simp only [List.length_append]; omega)) | (show _ ≤ _; omega) | (simp only [List.length_take, List.length_drop, List.length_append, List.length_cons, List.length_nil]; omega) | ((repeat' (first | exact trivial | exact rfl | exact Nat.le_of_ble_eq_true rfl | refine And.intro ?_ ?_ | fail)); done) | ((try simp (disch := omega) only [NS, Nat.reduceBEq, Nat.reduceAdd, Nat.reduceMul, TY, slx, S13]); (repeat' (first | exact trivial | exact rfl | exact ⟨_, _, rfl⟩ | exact ⟨_, rfl⟩ | exact Nat.le_of_ble_eq_true rfl | exact Nat.zero_lt_succ _ | omega | refine And.intro ?_ ?_ | fail)); done)); done))))
    | (refine AWL.guard2 rfl rfl rfl rfl rfl rfl ?_ ?_ <;> (intro hc; (try simp only [Bool.not_true, Bool.not_false] at hc); first | (cases hc; done) | ((try simp only [hc]); (try simp only [beq_iff_eq, bne_iff_ne, decide_eq_true_eq, decide_eq_false_iff_not, beq_eq_false_iff_ne, bne_eq_false_iff_eq, ne_eq, Bool.not_eq_true, Bool.not_eq_false, Bool.not_eq_eq_eq_not, Bool.not_true, Bool.not_false, Decidable.not_not, Int.not_lt, Int.not_le] at hc); (try (exfalso; omega)); (try (guard_hyp hc : True; clear hc)))))
    | (refine AWL.guard2 rfl rfl rfl rfl rfl rfl (fun hc => ?_) ?_; (cases hc; done))
    | (refine AW.drawn false hmix ?_ ?_; (focus kernel_rfl))
    | (refine AWL.guardU rfl rfl rfl rfl rfl rfl ?_; (try simp (disch := omega) only [NS, Nat.reduceBEq, Nat.reduceAdd, Nat.reduceMul, TY, slx, S13]))
    | (refine DQ.guardU rfl rfl rfl rfl rfl rfl rfl ?_; (try simp (disch := omega) only [NS, Nat.reduceBEq, Nat.reduceAdd, Nat.reduceMul, TY, slx, S13]))
    | refine DQ.tail rfl ?_
    | (refine DQ.guard2 rfl rfl rfl rfl rfl rfl rfl ?_ ?_ <;> (intro hc; (try simp only [Bool.not_true, Bool.not_false] at hc); first | (cases hc; done) | ((try simp only [hc]); (try simp only [beq_iff_eq, bne_iff_ne, decide_eq_true_eq, decide_eq_false_iff_not, beq_eq_false_iff_ne, bne_eq_false_iff_eq, ne_eq, Bool.not_eq_true, Bool.not_eq_false, Bool.not_eq_eq_eq_not, Bool.not_true, Bool.not_false, Decidable.not_not, Int.not_lt, Int.not_le] at hc); (try (exfalso; omega)); (try (guard_hyp hc : True; clear hc)))))
    | (refine AW.cond rfl (fun hc => ?_) (fun hc => ?_) <;> first | (cases hc; done) | ((try simp only [beq_iff_eq, bne_iff_ne, decide_eq_true_eq, decide_eq_false_iff_not, beq_eq_false_iff_ne, bne_eq_false_iff_eq, ne_eq, Bool.not_eq_true, Bool.not_eq_false, Bool.not_eq_eq_eq_not, Bool.not_true, Bool.not_false, Decidable.not_not, Int.not_lt, Int.not_le] at hc); (try (exfalso; omega)); (try (guard_hyp hc : True; clear hc))))
    | (refine EndQ.mk rfl rfl rfl ?_ ?_ ?_; (focus (first | exact Or.inl rfl | exact Or.inr rfl)); (focus ((first | exact trivial | omega | exact ld_nums i3 _ _ (by first | assumption | omega | (simp only [List.length_append]; omega)) | exact ld_nums i5 _ _ (by first | assumption | omega | (simp only [List.length_append]; omega)) | exact ld_nums i24 _ _ (by first | assumption | omega | (simp only [List.length_append]; omega)) | (show _ ≤ _; omega) | (simp only [List.length_take, List.length_drop, List.length_append, List.length_cons, List.length_nil]; omega) | ((repeat' (first | exact trivial | exact rfl | exact Nat.le_of_ble_eq_true rfl | refine And.intro ?_ ?_ | fail)); done) | ((try simp (disch := omega) only [NS, Nat.reduceBEq, Nat.reduceAdd, Nat.reduceMul, TY, slx, S13]); (repeat' (first | exact trivial | exact rfl | exact ⟨_, _, rfl⟩ | exact ⟨_, rfl⟩ | exact Nat.le_of_ble_eq_true rfl | exact Nat.zero_lt_succ _ | omega | refine And.intro ?_ ?_ | fail)); done)); done)); (try simp (disch := omega) only [NS, Nat.reduceBEq, Nat.reduceAdd, Nat.reduceMul, TY, slx, S13]))
    | fail)
  · refine ⟨?_, trivial⟩; rw [sSpec, if_pos (by omega)]
  · obtain ⟨a0, rfl⟩ : ∃ a0 : Nat, at_ = a0 := ⟨at_.toNat, by omega⟩
    have hsp : sSpec xs a0 bits = sRd bits (xs.drop a0) 0 0 a0 := by rw [sSpec, if_neg (by omega), Int.toNat_natCast]
    refine AW.loop [0, 1, 2, 9, 10] [] (fun n st => ∃ (k a : Nat) (v : Int), st = S13 xs bits a (7 * k) v ∧ a ≤ xs.length ∧ n = xs.length - a ∧ 7 * (k : Int) < bits ∧ 0 ≤ v ∧ v < 2 ^ (7 * k) ∧ sSpec xs a0 bits = sRd bits (xs.drop a) (7 * k) v a) ?_ ?_
    · exact ⟨_, 0, a0, 0, rfl, by omega, rfl, by omega, by decide, by decide, hsp⟩
    · rintro n st ⟨k, a, v, rfl, ha, rfl, hkb, hv0, hv1, hs⟩
      by_cases hal : a < xs.length
      · have hx := hb _ (getD_mem hal)
        have hA := and_127 hx.1 hx.2
        have hB : IntKind.i64.wrap (xs.getD a 0 % 128) = xs.getD a 0 % 128 := wrap64_id _ (by omega) (by omega)
        rw [drop_getD hal] at hs
        simp only [sRd] at hs
        have hM : min (7 * (k : Int)).toNat IntKind.i64.bits = 7 * k := by
          rw [Nat.min_eq_left (by show _ ≤ 64; omega)]; omega
        have e7 : (2 : Int) ^ (7 * k + 7) = 2 ^ (7 * (k + 1)) := by rw [Nat.mul_succ]
        have hX := sx_of hx
        repeat' (first
          | refine AW.seq ?_
          | refine AW.block ?_
          | refine AW.region ?_
          | (refine AW.skip ?_; (try simp only [thenQ, blockQ, ↓reduceIte, Nat.reduceEqDiff]))
          | (refine AW.ret ?_; (try simp only [thenQ, blockQ, ↓reduceIte, Nat.reduceEqDiff]))
          | (refine AW.exit ?_; (try simp only [thenQ, blockQ, ↓reduceIte, Nat.reduceEqDiff]))
          | (refine AWL.nil ?_; (try simp only [thenQ, blockQ, ↓reduceIte, Nat.reduceEqDiff]))
          | (refine DQ.nil ?_; (try simp only [thenQ, blockQ, ↓reduceIte, Nat.reduceEqDiff]))
          | ((first
            | (refine AWL.op (sl := SL) rfl rfl ?_ ?_)
            | (refine DQ.op rfl rfl rfl rfl rfl ?_ ?_)
            | (refine DQ.yes rfl ?_ ?_)
            | (refine DQ.step rfl rfl rfl rfl (QStep.assign rfl) ?_)
            | fail) <;> (first | ((first | show AWL _ _ _ _ _ | show DQ _ _ _ _ _ _ | show AW _ _ _ _ | (rintro _ _ ⟨rfl, rfl⟩; (try refine And.intro rfl ?_))); (try simp (disch := omega) only [NS, Nat.reduceBEq, Nat.reduceAdd, Nat.reduceMul, TY, slx, S13, hA, hB, hM, hX, shr8, wrap64_id])) | (focus ((first | exact trivial | omega | exact ld_nums i3 _ _ (by first | assumption | omega | (simp only [List.length_append]; omega)) | exact ld_nums i5 _ _ (by first | assumption | omega | (simp only [List.length_append]; omega)) | exact ld_nums i24 _ _ (by first | assumption | omega | (simp only [List.length_append]; omega)) | (show _ ≤ _; omega) | (simp only [List.length_take, List.length_drop, List.length_append, List.length_cons, List.length_nil]; omega) | ((repeat' (first | exact trivial | exact rfl | exact Nat.le_of_ble_eq_true rfl | refine And.intro ?_ ?_ | fail)); done) | ((try simp (disch := omega) only [NS, Nat.reduceBEq, Nat.reduceAdd, Nat.reduceMul, TY, slx, S13, hA, hB, hM, hX, shr8, wrap64_id]); (repeat' (first | exact trivial | exact rfl | exact ⟨_, _, rfl⟩ | exact ⟨_, rfl⟩ | exact Nat.le_of_ble_eq_true rfl | exact Nat.zero_lt_succ _ | omega | refine And.intro ?_ ?_ | fail)); done)); done))))
          | (refine AWL.guard2 rfl rfl rfl rfl rfl rfl ?_ ?_ <;> (intro hc; (try simp only [Bool.not_true, Bool.not_false] at hc); first | (cases hc; done) | ((try simp only [hc]); (try simp only [beq_iff_eq, bne_iff_ne, decide_eq_true_eq, decide_eq_false_iff_not, beq_eq_false_iff_ne, bne_eq_false_iff_eq, ne_eq, Bool.not_eq_true, Bool.not_eq_false, Bool.not_eq_eq_eq_not, Bool.not_true, Bool.not_false, Decidable.not_not, Int.not_lt, Int.not_le] at hc); (try (exfalso; omega)); (try (guard_hyp hc : True; clear hc)))))
          | (refine AWL.guard2 rfl rfl rfl rfl rfl rfl (fun hc => ?_) ?_; (cases hc; done))
          | (refine AW.drawn false hmix ?_ ?_; (focus kernel_rfl))
          | (refine AWL.guardU rfl rfl rfl rfl rfl rfl ?_; (try simp (disch := omega) only [NS, Nat.reduceBEq, Nat.reduceAdd, Nat.reduceMul, TY, slx, S13, hA, hB, hM, hX, shr8, wrap64_id]))
          | (refine DQ.guardU rfl rfl rfl rfl rfl rfl rfl ?_; (try simp (disch := omega) only [NS, Nat.reduceBEq, Nat.reduceAdd, Nat.reduceMul, TY, slx, S13, hA, hB, hM, hX, shr8, wrap64_id]))
          | refine DQ.tail rfl ?_
          | (refine DQ.guard2 rfl rfl rfl rfl rfl rfl rfl ?_ ?_ <;> (intro hc; (try simp only [Bool.not_true, Bool.not_false] at hc); first | (cases hc; done) | ((try simp only [hc]); (try simp only [beq_iff_eq, bne_iff_ne, decide_eq_true_eq, decide_eq_false_iff_not, beq_eq_false_iff_ne, bne_eq_false_iff_eq, ne_eq, Bool.not_eq_true, Bool.not_eq_false, Bool.not_eq_eq_eq_not, Bool.not_true, Bool.not_false, Decidable.not_not, Int.not_lt, Int.not_le] at hc); (try (exfalso; omega)); (try (guard_hyp hc : True; clear hc)))))
          | (refine AW.cond rfl (fun hc => ?_) (fun hc => ?_) <;> first | (cases hc; done) | ((try simp only [beq_iff_eq, bne_iff_ne, decide_eq_true_eq, decide_eq_false_iff_not, beq_eq_false_iff_ne, bne_eq_false_iff_eq, ne_eq, Bool.not_eq_true, Bool.not_eq_false, Bool.not_eq_eq_eq_not, Bool.not_true, Bool.not_false, Decidable.not_not, Int.not_lt, Int.not_le] at hc); (try (exfalso; omega)); (try (guard_hyp hc : True; clear hc))))
          | (refine EndQ.mk rfl rfl rfl ?_ ?_ ?_; (focus (first | exact Or.inl rfl | exact Or.inr rfl)); (focus ((first | exact trivial | omega | exact ld_nums i3 _ _ (by first | assumption | omega | (simp only [List.length_append]; omega)) | exact ld_nums i5 _ _ (by first | assumption | omega | (simp only [List.length_append]; omega)) | exact ld_nums i24 _ _ (by first | assumption | omega | (simp only [List.length_append]; omega)) | (show _ ≤ _; omega) | (simp only [List.length_take, List.length_drop, List.length_append, List.length_cons, List.length_nil]; omega) | ((repeat' (first | exact trivial | exact rfl | exact Nat.le_of_ble_eq_true rfl | refine And.intro ?_ ?_ | fail)); done) | ((try simp (disch := omega) only [NS, Nat.reduceBEq, Nat.reduceAdd, Nat.reduceMul, TY, slx, S13, hA, hB, hM, hX, shr8, wrap64_id]); (repeat' (first | exact trivial | exact rfl | exact ⟨_, _, rfl⟩ | exact ⟨_, rfl⟩ | exact Nat.le_of_ble_eq_true rfl | exact Nat.zero_lt_succ _ | omega | refine And.intro ?_ ?_ | fail)); done)); done)); (try simp (disch := omega) only [NS, Nat.reduceBEq, Nat.reduceAdd, Nat.reduceMul, TY, slx, S13, hA, hB, hM, hX, shr8, wrap64_id]))
          | fail)
        all_goals try simp (disch := omega) only [NS, Nat.reduceBEq, Nat.reduceAdd, Nat.reduceMul, TY, slx, S13, hA, hB, hM, hX, shr8, wrap64_id]
        · rw [hs, if_pos ⟨by assumption, .inr (by omega)⟩]; exact ⟨rfl, trivial⟩
        · have hg := sgn_all (x := xs.getD a 0) (by omega) hkb hv0 hv1 (fun _ => .inr (by assumption))
          rw [if_neg (by rintro ⟨_, ⟨_, h⟩ | h⟩ <;> first | exact h (by assumption) | omega), if_pos (by assumption)] at hs; rw [hs, hg]; exact ⟨rfl, trivial⟩
        · rw [hs, if_pos ⟨by assumption, .inl ⟨by assumption, by assumption⟩⟩]; exact ⟨rfl, trivial⟩
        · rw [hs, if_pos ⟨by assumption, .inr (by omega)⟩]; exact ⟨rfl, trivial⟩
        · have hg := sgn_all (x := xs.getD a 0) (by omega) hkb hv0 hv1 (fun _ => .inl (by assumption))
          rw [if_neg (by rintro ⟨_, ⟨h, _⟩ | h⟩ <;> first | exact h (by assumption) | omega), if_pos (by assumption)] at hs; rw [hs, hg]; exact ⟨rfl, trivial⟩
        · have hg := sgn_all (x := xs.getD a 0) (by omega) hkb hv0 hv1 (fun _ => by omega)
          rw [if_neg (by rintro ⟨_, _⟩; omega), if_pos (by assumption)] at hs; rw [hs, hg]; exact ⟨rfl, trivial⟩
        · have ho := or64 (k := k) (low := xs.getD a 0 % 128) (by omega) hv0 hv1 (by omega) (by omega)
          rw [if_neg (by rintro ⟨_, _⟩; omega), if_neg (by omega)] at hs
          refine ⟨xs.length - (a + 1), by omega, k + 1, a + 1, v + xs.getD a 0 % 128 * 2 ^ (7 * k), ?_, by omega, rfl, by omega, ho.2.1, by rw [← e7]; exact ho.2.2, hs⟩
          rw [ho.1, show (7 * ((k + 1 : Nat) : Int)) = 7 * k + 7 from by omega]; rfl
      · repeat' (first
          | refine AW.seq ?_
          | refine AW.block ?_
          | refine AW.region ?_
          | (refine AW.skip ?_; (try simp only [thenQ, blockQ, ↓reduceIte, Nat.reduceEqDiff]))
          | (refine AW.ret ?_; (try simp only [thenQ, blockQ, ↓reduceIte, Nat.reduceEqDiff]))
          | (refine AW.exit ?_; (try simp only [thenQ, blockQ, ↓reduceIte, Nat.reduceEqDiff]))
          | (refine AWL.nil ?_; (try simp only [thenQ, blockQ, ↓reduceIte, Nat.reduceEqDiff]))
          | (refine DQ.nil ?_; (try simp only [thenQ, blockQ, ↓reduceIte, Nat.reduceEqDiff]))
          | ((first
            | (refine AWL.op (sl := SL) rfl rfl ?_ ?_)
            | (refine DQ.op rfl rfl rfl rfl rfl ?_ ?_)
            | (refine DQ.yes rfl ?_ ?_)
            | (refine DQ.step rfl rfl rfl rfl (QStep.assign rfl) ?_)
            | fail) <;> (first | ((first | show AWL _ _ _ _ _ | show DQ _ _ _ _ _ _ | show AW _ _ _ _ | (rintro _ _ ⟨rfl, rfl⟩; (try refine And.intro rfl ?_))); (try simp (disch := omega) only [NS, Nat.reduceBEq, Nat.reduceAdd, Nat.reduceMul, TY, slx, S13])) | (focus ((first | exact trivial | omega | exact ld_nums i3 _ _ (by first | assumption | omega | (simp only [List.length_append]; omega)) | exact ld_nums i5 _ _ (by first | assumption | omega | (simp only [List.length_append]; omega)) | exact ld_nums i24 _ _ (by first | assumption | omega | (simp only [List.length_append]; omega)) | (show _ ≤ _; omega) | (simp only [List.length_take, List.length_drop, List.length_append, List.length_cons, List.length_nil]; omega) | ((repeat' (first | exact trivial | exact rfl | exact Nat.le_of_ble_eq_true rfl | refine And.intro ?_ ?_ | fail)); done) | ((try simp (disch := omega) only [NS, Nat.reduceBEq, Nat.reduceAdd, Nat.reduceMul, TY, slx, S13]); (repeat' (first | exact trivial | exact rfl | exact ⟨_, _, rfl⟩ | exact ⟨_, rfl⟩ | exact Nat.le_of_ble_eq_true rfl | exact Nat.zero_lt_succ _ | omega | refine And.intro ?_ ?_ | fail)); done)); done))))
          | (refine AWL.guard2 rfl rfl rfl rfl rfl rfl ?_ ?_ <;> (intro hc; (try simp only [Bool.not_true, Bool.not_false] at hc); first | (cases hc; done) | ((try simp only [hc]); (try simp only [beq_iff_eq, bne_iff_ne, decide_eq_true_eq, decide_eq_false_iff_not, beq_eq_false_iff_ne, bne_eq_false_iff_eq, ne_eq, Bool.not_eq_true, Bool.not_eq_false, Bool.not_eq_eq_eq_not, Bool.not_true, Bool.not_false, Decidable.not_not, Int.not_lt, Int.not_le] at hc); (try (exfalso; omega)); (try (guard_hyp hc : True; clear hc)))))
          | (refine AWL.guard2 rfl rfl rfl rfl rfl rfl (fun hc => ?_) ?_; (cases hc; done))
          | (refine AW.drawn false hmix ?_ ?_; (focus kernel_rfl))
          | (refine AWL.guardU rfl rfl rfl rfl rfl rfl ?_; (try simp (disch := omega) only [NS, Nat.reduceBEq, Nat.reduceAdd, Nat.reduceMul, TY, slx, S13]))
          | (refine DQ.guardU rfl rfl rfl rfl rfl rfl rfl ?_; (try simp (disch := omega) only [NS, Nat.reduceBEq, Nat.reduceAdd, Nat.reduceMul, TY, slx, S13]))
          | refine DQ.tail rfl ?_
          | (refine DQ.guard2 rfl rfl rfl rfl rfl rfl rfl ?_ ?_ <;> (intro hc; (try simp only [Bool.not_true, Bool.not_false] at hc); first | (cases hc; done) | ((try simp only [hc]); (try simp only [beq_iff_eq, bne_iff_ne, decide_eq_true_eq, decide_eq_false_iff_not, beq_eq_false_iff_ne, bne_eq_false_iff_eq, ne_eq, Bool.not_eq_true, Bool.not_eq_false, Bool.not_eq_eq_eq_not, Bool.not_true, Bool.not_false, Decidable.not_not, Int.not_lt, Int.not_le] at hc); (try (exfalso; omega)); (try (guard_hyp hc : True; clear hc)))))
          | (refine AW.cond rfl (fun hc => ?_) (fun hc => ?_) <;> first | (cases hc; done) | ((try simp only [beq_iff_eq, bne_iff_ne, decide_eq_true_eq, decide_eq_false_iff_not, beq_eq_false_iff_ne, bne_eq_false_iff_eq, ne_eq, Bool.not_eq_true, Bool.not_eq_false, Bool.not_eq_eq_eq_not, Bool.not_true, Bool.not_false, Decidable.not_not, Int.not_lt, Int.not_le] at hc); (try (exfalso; omega)); (try (guard_hyp hc : True; clear hc))))
          | (refine EndQ.mk rfl rfl rfl ?_ ?_ ?_; (focus (first | exact Or.inl rfl | exact Or.inr rfl)); (focus ((first | exact trivial | omega | exact ld_nums i3 _ _ (by first | assumption | omega | (simp only [List.length_append]; omega)) | exact ld_nums i5 _ _ (by first | assumption | omega | (simp only [List.length_append]; omega)) | exact ld_nums i24 _ _ (by first | assumption | omega | (simp only [List.length_append]; omega)) | (show _ ≤ _; omega) | (simp only [List.length_take, List.length_drop, List.length_append, List.length_cons, List.length_nil]; omega) | ((repeat' (first | exact trivial | exact rfl | exact Nat.le_of_ble_eq_true rfl | refine And.intro ?_ ?_ | fail)); done) | ((try simp (disch := omega) only [NS, Nat.reduceBEq, Nat.reduceAdd, Nat.reduceMul, TY, slx, S13]); (repeat' (first | exact trivial | exact rfl | exact ⟨_, _, rfl⟩ | exact ⟨_, rfl⟩ | exact Nat.le_of_ble_eq_true rfl | exact Nat.zero_lt_succ _ | omega | refine And.intro ?_ ?_ | fail)); done)); done)); (try simp (disch := omega) only [NS, Nat.reduceBEq, Nat.reduceAdd, Nat.reduceMul, TY, slx, S13]))
          | fail)
        all_goals try simp (disch := omega) only [NS, Nat.reduceBEq, Nat.reduceAdd, Nat.reduceMul, TY, slx, S13]
        · rw [List.drop_of_length_le (by omega)] at hs
          rw [hs]; exact ⟨rfl, trivial⟩
        all_goals (exfalso; omega)
  all_goals (refine ⟨?_, trivial⟩; rw [sSpec, if_pos (by omega)])
end Go.Proofs.Yticidhkilfkgbaa
