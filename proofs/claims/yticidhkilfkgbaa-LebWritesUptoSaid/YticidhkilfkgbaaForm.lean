/- The document's form. -/
import Derived.Test.YticidhkilfkgbaaV4
import Derived.Test.YticidhkilfkgbaaLCuts
namespace Go.Proofs.Yticidhkilfkgbaa
set_option linter.unusedSimpArgs false
set_option linter.unusedVariables false
open Go Go.Abs
attribute [local irreducible] AW AWL AC DQ IntKind.wrap

def FA (n : Int) (sg : Bool) (size : Int) : St := { n := 86, slots := [(0, .int .u64 n), (1, .bool sg), (4, .ref 4 0 0 1), (5, .int .i64 size)], mem := [(4, ⟨true, []⟩)] }
def FB (n : Int) (sg : Bool) (size : Int) (len : Nat) (c : List V) (k : Int) : St := { n := 86, slots := [(0, .int .u64 n), (1, .bool sg), (4, .ref 4 0 0 1), (5, .int .i64 size), (6, .ref 6 0 len 1), (7, .int .i64 k)], mem := [(4, ⟨true, []⟩), (6, ⟨true, c⟩)] }
def FC (n : Int) (sg : Bool) (size : Int) (len : Nat) (c : List V) (k x i : Int) : St := { n := 86, slots := [(0, .int .u64 n), (1, .bool sg), (4, .ref 4 0 0 1), (5, .int .i64 size), (6, .ref 6 0 len 1), (7, .int .i64 k), (8, .int .u8 x), (9, .int .i64 i)], mem := [(4, ⟨true, []⟩), (6, ⟨true, c⟩)] }
theorem padU_getD (s : Nat) (N : Int) (k : Nat) (h : k ≤ s) : (padU s N).getD k 0 = N / 2 ^ (7 * k) % 128 + if k < s then 128 else 0 := by
  induction s generalizing N k with
  | zero => obtain rfl : k = 0 := by omega
            simp [padU]
  | succ s ih =>
    cases k with
    | zero => simp [padU]
    | succ k =>
      rw [padU, List.getD_cons_succ, ih _ _ (by omega), pow7, Int.ediv_ediv_of_nonneg (by decide)]
      simp
def inR (sg : Bool) (N : Int) : Prop := (sg = true → -2 ^ 63 ≤ N ∧ N < 2 ^ 63) ∧ (sg = false → 0 ≤ N ∧ N < 2 ^ 64)
theorem big_ediv {N : Int} (h0 : 0 ≤ N) {a at_ : Nat} (h : N < 2 ^ a) (h2 : a ≤ at_) : N / 2 ^ at_ = 0 := by
  refine Int.ediv_eq_zero_of_lt h0 (Int.lt_of_lt_of_le h ?_)
  exact_mod_cast Nat.pow_le_pow_right (by decide) h2
theorem neg_ediv {N : Int} (h0 : N < 0) {a at_ : Nat} (h : -2 ^ a ≤ N) (h2 : a ≤ at_) : N / 2 ^ at_ = -1 := by
  have hp : (2 : Int) ^ a ≤ 2 ^ at_ := by exact_mod_cast Nat.pow_le_pow_right (by decide) h2
  have hq : (0 : Int) < 2 ^ at_ := Int.pow_pos (by decide)
  generalize (2 : Int) ^ at_ = P at *
  have h1 := Int.emod_add_mul_ediv N P
  have h3 := Int.emod_nonneg N (by omega : P ≠ 0)
  have h4 := Int.emod_lt_of_pos N hq
  have : N / P < 0 := Int.ediv_neg_of_neg_of_pos h0 hq
  have h5 : -1 ≤ N / P := by
    rw [Int.le_ediv_iff_mul_le hq]; omega
  omega
theorem bit_lo (N : Int) (at_ : Nat) (h : at_ < 64) : N % 2 ^ 64 / 2 ^ at_ % 2 = N / 2 ^ at_ % 2 := by
  have hq : (0 : Int) < 2 ^ at_ := Int.pow_pos (by decide)
  have e : (2 : Int) ^ 64 = 2 ^ at_ * (2 * 2 ^ (63 - at_)) := by
    rw [← Int.mul_assoc, Int.mul_comm (2 ^ at_) 2, Int.mul_assoc, ← Int.pow_add, show at_ + (63 - at_) = 63 from by omega]; rfl
  rw [e, Int.emod_def N, Int.mul_assoc, Int.sub_mul_ediv_left _ _ (by omega)]
  rw [Int.mul_assoc]; omega
theorem bit_hi {sg : Bool} {N : Int} (h : inR sg N) (at_ : Nat) (h2 : 64 ≤ at_) : N / 2 ^ at_ % 2 = if sg = true then N % 2 ^ 64 / 2 ^ 63 else 0 := by
  cases sg with
  | false =>
    have := h.2 rfl
    rw [big_ediv this.1 this.2 h2]; rfl
  | true =>
    have := h.1 rfl
    rw [if_pos rfl]
    by_cases h0 : 0 ≤ N
    · rw [big_ediv h0 this.2 (by omega)]
      simp only [Int.reducePow] at this ⊢; omega
    · rw [neg_ediv (by omega) this.1 (by omega)]
      simp only [Int.reducePow] at this ⊢; omega
theorem or_bit {x v : Int} {i : Nat} (hx : 0 ≤ x ∧ x < 2 ^ i) (hv : v = 0 ∨ v = 1) (hi : i < 7) : bitsOp .or .u8 x (IntKind.u8.wrap (IntKind.i64.wrap (v * 2 ^ min i IntKind.i64.bits))) = x + v * 2 ^ i := by
  have e2 : min i IntKind.i64.bits = i := Nat.min_eq_left (by show _ ≤ 64; omega)
  have hp : (0 : Int) < 2 ^ i := Int.pow_pos (by decide)
  have hp2 : (2 : Int) ^ i ≤ 64 := by
    have : (2 : Nat) ^ i ≤ 2 ^ 6 := Nat.pow_le_pow_right (by decide) (by omega)
    exact_mod_cast this
  rw [e2]
  have e3 : IntKind.i64.wrap (v * 2 ^ i) = v * 2 ^ i := wrap64_id _ (by rcases hv with rfl | rfl <;> omega) (by rcases hv with rfl | rfl <;> omega)
  rw [e3, show IntKind.u8.wrap (v * 2 ^ i) = v * 2 ^ i from wrap_in rfl (by rcases hv with rfl | rfl <;> omega) (by show _ < (256 : Int); rcases hv with rfl | rfl <;> omega)]
  exact or_add (k := .u8) i hx.1 hx.2 (by omega) (by show _ < (256 : Int); rcases hv with rfl | rfl <;> omega) (.inl rfl)
theorem step_bit (y : Int) (i : Nat) : y % 2 ^ i + y / 2 ^ i % 2 * 2 ^ i = y % 2 ^ (i + 1) := by
  have hp : (0 : Int) < 2 ^ i := Int.pow_pos (by decide)
  rw [Int.pow_succ, Int.emod_def y, Int.emod_def (y / 2 ^ i), Int.emod_def y (2 ^ i * 2), ← Int.ediv_ediv_of_nonneg (by omega)]
  generalize y / 2 ^ i = q
  generalize (2 : Int) ^ i = P at *
  rw [Int.sub_mul, Int.mul_comm q P, Int.mul_assoc P 2, Int.mul_comm (2 * (q / 2)) P]; omega
def putF (sg : Bool) (N : Int) : List Int := if sg = true then putS N else putU N.toNat
def rangeF (sg : Bool) (s : Nat) (N : Int) : Prop := if sg = true then rangeS s N else rangeU s N
theorem putF_is {sg : Bool} {N : Int} (h0 : inR sg N) {s : Nat} (h : rangeF sg s N) (hl : ∀ t, t < s → ¬rangeF sg t N) : padU s N = putF sg N := by
  cases sg with
  | true => exact (putS_is h hl).symm
  | false =>
    have e : ((N.toNat : Nat) : Int) = N := Int.toNat_of_nonneg (h0.2 rfl).1
    have := putU_is (n := N.toNat) (s := s) (by rw [e]; exact h) (fun t ht => by rw [e]; exact hl t ht)
    rw [e] at this; exact this.symm
theorem range9 {sg : Bool} {N : Int} (h0 : inR sg N) : rangeF sg 9 N := by
  cases sg with
  | true => have := h0.1 rfl; unfold rangeF rangeS; simp only [Int.reducePow, if_true] at this ⊢; simp only [Nat.reduceMul, Int.reducePow]; omega
  | false => have := h0.2 rfl; unfold rangeF rangeU; simp only [Nat.reduceAdd, Nat.reduceMul, Int.reducePow] at this ⊢; simp; omega
theorem back_u {N : Int} (h0 : inR false N) {s : Nat} (hs : s ≤ 9) : uSpec (padU s N) 0 64 = (N % 2 ^ (7 * (s + 1)), ((s + 1 : Nat) : Int), 0) ∧ (N % 2 ^ (7 * (s + 1)) = N % 2 ^ 64 ↔ rangeF false s N) := by
  have h := h0.2 rfl
  have hl := padU_len s N
  have hp : (0 : Int) < 2 ^ (7 * (s + 1)) := Int.pow_pos (by decide)
  have hm : N % 2 ^ (7 * (s + 1)) ≤ N := by
    have h9 := Int.emod_add_mul_ediv N (2 ^ (7 * (s + 1)))
    have h8 : 0 ≤ 2 ^ (7 * (s + 1)) * (N / 2 ^ (7 * (s + 1))) := Int.mul_nonneg (by omega) (Int.ediv_nonneg h.1 (by omega))
    omega
  have hr := uRd_pad 64 [] s N 0 0 0 (by omega)
  rw [List.append_nil, show 7 * 0 = 0 from rfl, if_pos (by show _ < (2 : Int) ^ 64; omega)] at hr
  refine ⟨?_, ?_⟩
  · rw [uSpec, if_neg (by omega), show List.drop (Int.toNat 0) (padU s N) = padU s N from rfl, hr]
    refine Prod.ext ?_ (Prod.ext ?_ rfl)
    · simp
    · simp only; omega
  · unfold rangeF rangeU
    simp only [if_false, Bool.false_eq_true]
    rw [Int.emod_eq_of_lt h.1 h.2]
    constructor
    · intro e; have := Int.emod_lt_of_pos N hp; omega
    · intro e; exact Int.emod_eq_of_lt h.1 e
theorem back_s {N : Int} (h0 : inR true N) {s : Nat} (hs : s ≤ 9) : ∃ z, sSpec (padU s N) 0 64 = (z, ((s + 1 : Nat) : Int), 0) ∧ (IntKind.u64.wrap z = N % 2 ^ 64 ↔ rangeF true s N) := by
  have h := h0.1 rfl
  have hl := padU_len s N
  have hr := sRd_pad [] s N 0 0 0 (by omega) h
  rw [List.append_nil, show 7 * 0 = 0 from rfl] at hr
  have hse := sext_emod s N
  refine ⟨sext (7 * s + 7) (N % 2 ^ (7 * (s + 1))), ?_, ?_⟩
  · rw [sSpec, if_neg (by omega), show List.drop (Int.toNat 0) (padU s N) = padU s N from rfl, hr]
    refine Prod.ext ?_ (Prod.ext ?_ rfl)
    · simp
    · simp only; omega
  · have hb : -2 ^ 63 ≤ sext (7 * s + 7) (N % 2 ^ (7 * (s + 1))) ∧ sext (7 * s + 7) (N % 2 ^ (7 * (s + 1))) < 2 ^ 63 := by
      by_cases h9 : s = 9
      · subst h9
        rw [hse.2 (by have := range9 h0; exact this)]; exact h
      · have hp : (0 : Int) < 2 ^ (7 * (s + 1)) := Int.pow_pos (by decide)
        have h1 := Int.emod_nonneg N (by omega : (2 : Int) ^ (7 * (s + 1)) ≠ 0)
        have h2 := Int.emod_lt_of_pos N hp
        have h3 : (2 : Int) ^ (7 * (s + 1)) ≤ 2 ^ 63 := by exact_mod_cast Nat.pow_le_pow_right (n := 2) (by decide) (by omega)
        have h4 : (2 : Int) ^ (7 * s + 7) = 2 ^ (7 * (s + 1)) := rfl
        unfold sext
        rw [h4]
        split <;> omega
    rw [show (rangeF true s N) = rangeS s N from rfl, ← hse, IntKind.wrap_u64]
    simp only [Int.reducePow] at hb h ⊢
    omega
theorem take_next (s : Nat) (N : Int) (k : Nat) (h : k ≤ s) : (padU s N).take (k + 1) = (padU s N).take k ++ [N / 2 ^ (7 * k) % 128 + if k < s then 128 else 0] := by
  rw [take_snoc _ _ (by rw [padU_len]; omega), padU_getD s N k h]
set_option maxRecDepth 4000 in
set_option maxHeartbeats 8000000 in
theorem form_ok (sg : Bool) (N : Int) (hN : inR sg N) :
    AC Try.prog 21 [.int .u64 (N % 2 ^ 64), .bool sg] (fun r m => r = .view (putF sg N).length 1 (nums .u8 (putF sg N)) ∧ m = []) := by
  refine AC.enter Try.func21 rfl (Nat.le_of_ble_eq_true rfl) ?_
  simp only [Try.f21]
  have hUc : True := trivial
  have hSc : True := trivial
  repeat' (first
    | refine AW.seq ?_
    | refine AW.block ?_
    | refine AW.region ?_
    | (refine AW.skip ?_; (try simp only [thenQ, blockQ, ↓reduceIte, Nat.reduceEqDiff]))
    | (refine AW.ret ?_; (try simp only [thenQ, blockQ, ↓reduceIte, Nat.reduceEqDiff]))
    | (refine AW.exit ?_; (try simp only [thenQ, blockQ, ↓reduceIte, Nat.reduceEqDiff]))
    | (refine AWL.nil ?_; (try simp only [thenQ, blockQ, ↓reduceIte, Nat.reduceEqDiff]))
    | (refine DQ.nil ?_; (try simp only [thenQ, blockQ, ↓reduceIte, Nat.reduceEqDiff]))
    | ((first
      | (refine AWL.op (sl := SL) rfl rfl ?_ ?_)
      | (refine DQ.op rfl rfl rfl rfl rfl ?_ ?_)
      | (refine DQ.yes rfl ?_ ?_)
      | (refine DQ.step rfl rfl rfl rfl (QStep.assign rfl) ?_)
      | (refine AWL.frzA rfl rfl ?_)
      | (refine AWL.callV (f := 12) rfl rfl rfl rfl ?_ (Nat.le_of_ble_eq_true rfl) rfl (hUc) ?_; (focus kernel_rfl))
      | (refine AWL.call (f := 12) rfl rfl rfl ?_ rfl (Nat.le_of_ble_eq_true rfl) rfl (hUc) ?_; (focus kernel_rfl))
      | (refine CWr.call (f := 12) rfl ?_ rfl (hUc) (fun _ _ h => h) ?_ ?_ ?_; (focus kernel_rfl))
      | (refine DQ.step rfl rfl rfl rfl (QStep.call (f := 12) rfl ?_ rfl (hUc) (fun _ _ h => h) (fun _ => rfl)) ?_; (focus kernel_rfl))
      | (refine DQ.yesC (QStep.call (f := 12) rfl ?_ rfl (hUc) (fun _ _ h => h) (fun _ => rfl)) ?_; (focus kernel_rfl))
      | (refine AWL.callV (f := 14) rfl rfl rfl rfl ?_ (Nat.le_of_ble_eq_true rfl) rfl (hSc) ?_; (focus kernel_rfl))
      | (refine AWL.call (f := 14) rfl rfl rfl ?_ rfl (Nat.le_of_ble_eq_true rfl) rfl (hSc) ?_; (focus kernel_rfl))
      | (refine CWr.call (f := 14) rfl ?_ rfl (hSc) (fun _ _ h => h) ?_ ?_ ?_; (focus kernel_rfl))
      | (refine DQ.step rfl rfl rfl rfl (QStep.call (f := 14) rfl ?_ rfl (hSc) (fun _ _ h => h) (fun _ => rfl)) ?_; (focus kernel_rfl))
      | (refine DQ.yesC (QStep.call (f := 14) rfl ?_ rfl (hSc) (fun _ _ h => h) (fun _ => rfl)) ?_; (focus kernel_rfl))
      | fail) <;> (first | ((first | show AWL _ _ _ _ _ | show DQ _ _ _ _ _ _ | show AW _ _ _ _ | (rintro _ _ ⟨rfl, rfl⟩; (try refine And.intro rfl ?_))); (try simp (disch := omega) only [NS, ints_nums, ints_nil, ints_cons, eqL_nil, eqL_cons, eqS_int, eqS_bool, eqS_str, Nat.reduceBEq, Nat.reduceAdd, Nat.reduceMul, Int.reduceToNat, Nat.reduceSub, TY, slx, FA, FB, FC])) | (focus ((first | exact trivial | omega | (refine And.intro (by kernel_rfl) (And.intro ⟨_, (by first | exact nums_ints _ _ | rfl), (by first | exact nums_ints _ _ | rfl)⟩ (And.intro ?_ ?_)) <;> (first | rfl | assumption | (simp only [nums_length]; omega) | omega)) | (refine And.intro ?_ (And.intro ?_ ?_); (focus kernel_rfl); (focus kernel_rfl); (focus kernel_rfl)) | exact ld_nums i3 _ _ (by first | assumption | omega | (simp only [List.length_append]; omega)) | exact ld_nums i5 _ _ (by first | assumption | omega | (simp only [List.length_append]; omega)) | exact ld_nums i24 _ _ (by first | assumption | omega | (simp only [List.length_append]; omega)) | (show _ ≤ _; omega) | (simp only [List.length_take, List.length_drop, List.length_append, List.length_cons, List.length_nil]; omega) | ((repeat' (first | exact trivial | exact rfl | exact Nat.le_of_ble_eq_true rfl | refine And.intro ?_ ?_ | fail)); done) | ((try simp (disch := omega) only [NS, ints_nums, ints_nil, ints_cons, eqL_nil, eqL_cons, eqS_int, eqS_bool, eqS_str, Nat.reduceBEq, Nat.reduceAdd, Nat.reduceMul, Int.reduceToNat, Nat.reduceSub, TY, slx, FA, FB, FC]); (repeat' (first | exact trivial | exact rfl | exact ⟨_, _, rfl⟩ | exact ⟨_, rfl⟩ | exact Nat.le_of_ble_eq_true rfl | exact Nat.zero_lt_succ _ | omega | refine And.intro ?_ ?_ | fail)); done)); done))))
    | (refine AWL.guard2 rfl rfl rfl rfl rfl rfl ?_ ?_ <;> (intro hc; (try simp only [Bool.not_true, Bool.not_false] at hc); first | (cases hc; done) | ((try simp only [hc]); (try simp only [beq_iff_eq, bne_iff_ne, decide_eq_true_eq, decide_eq_false_iff_not, beq_eq_false_iff_ne, bne_eq_false_iff_eq, ne_eq, Bool.not_eq_true, Bool.not_eq_false, Bool.not_eq_eq_eq_not, Bool.not_true, Bool.not_false, Decidable.not_not, Int.not_lt, Int.not_le] at hc); (try (exfalso; omega)); (try (guard_hyp hc : True; clear hc)))))
    | (refine AWL.guard2 rfl rfl rfl rfl rfl rfl (fun hc => ?_) ?_; (cases hc; done))
    | (refine AW.drawn false hmix ?_ ?_; (focus kernel_rfl))
    | (refine AWL.guardU rfl rfl rfl rfl rfl rfl ?_; (try simp (disch := omega) only [NS, ints_nums, ints_nil, ints_cons, eqL_nil, eqL_cons, eqS_int, eqS_bool, eqS_str, Nat.reduceBEq, Nat.reduceAdd, Nat.reduceMul, Int.reduceToNat, Nat.reduceSub, TY, slx, FA, FB, FC]))
    | (refine DQ.guardU rfl rfl rfl rfl rfl rfl rfl ?_; (try simp (disch := omega) only [NS, ints_nums, ints_nil, ints_cons, eqL_nil, eqL_cons, eqS_int, eqS_bool, eqS_str, Nat.reduceBEq, Nat.reduceAdd, Nat.reduceMul, Int.reduceToNat, Nat.reduceSub, TY, slx, FA, FB, FC]))
    | refine DQ.tail rfl ?_
    | (refine DQ.guard2 rfl rfl rfl rfl rfl rfl rfl ?_ ?_ <;> (intro hc; (try simp only [Bool.not_true, Bool.not_false] at hc); first | (cases hc; done) | ((try simp only [hc]); (try simp only [beq_iff_eq, bne_iff_ne, decide_eq_true_eq, decide_eq_false_iff_not, beq_eq_false_iff_ne, bne_eq_false_iff_eq, ne_eq, Bool.not_eq_true, Bool.not_eq_false, Bool.not_eq_eq_eq_not, Bool.not_true, Bool.not_false, Decidable.not_not, Int.not_lt, Int.not_le] at hc); (try (exfalso; omega)); (try (guard_hyp hc : True; clear hc)))))
    | (refine AW.cond rfl (fun hc => ?_) (fun hc => ?_) <;> first | (cases hc; done) | ((try simp only [beq_iff_eq, bne_iff_ne, decide_eq_true_eq, decide_eq_false_iff_not, beq_eq_false_iff_ne, bne_eq_false_iff_eq, ne_eq, Bool.not_eq_true, Bool.not_eq_false, Bool.not_eq_eq_eq_not, Bool.not_true, Bool.not_false, Decidable.not_not, Int.not_lt, Int.not_le] at hc); (try (exfalso; omega)); (try (guard_hyp hc : True; clear hc))))
    | (refine EndQ.mk rfl rfl rfl ?_ ?_ ?_; (focus (first | exact Or.inl rfl | exact Or.inr rfl)); (focus ((first | exact trivial | omega | (refine And.intro (by kernel_rfl) (And.intro ⟨_, (by first | exact nums_ints _ _ | rfl), (by first | exact nums_ints _ _ | rfl)⟩ (And.intro ?_ ?_)) <;> (first | rfl | assumption | (simp only [nums_length]; omega) | omega)) | (refine And.intro ?_ (And.intro ?_ ?_); (focus kernel_rfl); (focus kernel_rfl); (focus kernel_rfl)) | exact ld_nums i3 _ _ (by first | assumption | omega | (simp only [List.length_append]; omega)) | exact ld_nums i5 _ _ (by first | assumption | omega | (simp only [List.length_append]; omega)) | exact ld_nums i24 _ _ (by first | assumption | omega | (simp only [List.length_append]; omega)) | (show _ ≤ _; omega) | (simp only [List.length_take, List.length_drop, List.length_append, List.length_cons, List.length_nil]; omega) | ((repeat' (first | exact trivial | exact rfl | exact Nat.le_of_ble_eq_true rfl | refine And.intro ?_ ?_ | fail)); done) | ((try simp (disch := omega) only [NS, ints_nums, ints_nil, ints_cons, eqL_nil, eqL_cons, eqS_int, eqS_bool, eqS_str, Nat.reduceBEq, Nat.reduceAdd, Nat.reduceMul, Int.reduceToNat, Nat.reduceSub, TY, slx, FA, FB, FC]); (repeat' (first | exact trivial | exact rfl | exact ⟨_, _, rfl⟩ | exact ⟨_, rfl⟩ | exact Nat.le_of_ble_eq_true rfl | exact Nat.zero_lt_succ _ | omega | refine And.intro ?_ ?_ | fail)); done)); done)); (try simp (disch := omega) only [NS, ints_nums, ints_nil, ints_cons, eqL_nil, eqL_cons, eqS_int, eqS_bool, eqS_str, Nat.reduceBEq, Nat.reduceAdd, Nat.reduceMul, Int.reduceToNat, Nat.reduceSub, TY, slx, FA, FB, FC]))
    | fail)
  refine AW.loop [0, 1, 4, 5] [4] (fun t st => ∃ s : Nat, st = FA (N % 2 ^ 64) sg ((s : Int) + 1) ∧ s ≤ 9 ∧ t = 10 - s ∧ ∀ t, t < s → ¬rangeF sg t N) ?_ ?_
  · exact ⟨_, 0, rfl, by omega, rfl, fun t ht => absurd ht (Nat.not_lt_zero _)⟩
  rintro t st ⟨s, rfl, hs, rfl, hno⟩
  have hl := padU_len s N
  have hby := padU_bytes s N
  have hUc := ru_at (padU s N) hby (by omega) 0 64
  rw [hl] at hUc
  have hSc := rs_at (padU s N) hby (by omega) 0 64
  rw [hl] at hSc
  repeat' (first
    | refine AW.seq ?_
    | refine AW.block ?_
    | refine AW.region ?_
    | (refine AW.skip ?_; (try simp only [thenQ, blockQ, ↓reduceIte, Nat.reduceEqDiff]))
    | (refine AW.ret ?_; (try simp only [thenQ, blockQ, ↓reduceIte, Nat.reduceEqDiff]))
    | (refine AW.exit ?_; (try simp only [thenQ, blockQ, ↓reduceIte, Nat.reduceEqDiff]))
    | (refine AWL.nil ?_; (try simp only [thenQ, blockQ, ↓reduceIte, Nat.reduceEqDiff]))
    | (refine DQ.nil ?_; (try simp only [thenQ, blockQ, ↓reduceIte, Nat.reduceEqDiff]))
    | ((first
      | (refine AWL.op (sl := SL) rfl rfl ?_ ?_)
      | (refine DQ.op rfl rfl rfl rfl rfl ?_ ?_)
      | (refine DQ.yes rfl ?_ ?_)
      | (refine DQ.step rfl rfl rfl rfl (QStep.assign rfl) ?_)
      | (refine AWL.frzA rfl rfl ?_)
      | (refine AWL.callV (f := 12) rfl rfl rfl rfl ?_ (Nat.le_of_ble_eq_true rfl) rfl (hUc) ?_; (focus kernel_rfl))
      | (refine AWL.call (f := 12) rfl rfl rfl ?_ rfl (Nat.le_of_ble_eq_true rfl) rfl (hUc) ?_; (focus kernel_rfl))
      | (refine CWr.call (f := 12) rfl ?_ rfl (hUc) (fun _ _ h => h) ?_ ?_ ?_; (focus kernel_rfl))
      | (refine DQ.step rfl rfl rfl rfl (QStep.call (f := 12) rfl ?_ rfl (hUc) (fun _ _ h => h) (fun _ => rfl)) ?_; (focus kernel_rfl))
      | (refine DQ.yesC (QStep.call (f := 12) rfl ?_ rfl (hUc) (fun _ _ h => h) (fun _ => rfl)) ?_; (focus kernel_rfl))
      | (refine AWL.callV (f := 14) rfl rfl rfl rfl ?_ (Nat.le_of_ble_eq_true rfl) rfl (hSc) ?_; (focus kernel_rfl))
      | (refine AWL.call (f := 14) rfl rfl rfl ?_ rfl (Nat.le_of_ble_eq_true rfl) rfl (hSc) ?_; (focus kernel_rfl))
      | (refine CWr.call (f := 14) rfl ?_ rfl (hSc) (fun _ _ h => h) ?_ ?_ ?_; (focus kernel_rfl))
      | (refine DQ.step rfl rfl rfl rfl (QStep.call (f := 14) rfl ?_ rfl (hSc) (fun _ _ h => h) (fun _ => rfl)) ?_; (focus kernel_rfl))
      | (refine DQ.yesC (QStep.call (f := 14) rfl ?_ rfl (hSc) (fun _ _ h => h) (fun _ => rfl)) ?_; (focus kernel_rfl))
      | fail) <;> (first | ((first | show AWL _ _ _ _ _ | show DQ _ _ _ _ _ _ | show AW _ _ _ _ | (rintro _ _ ⟨rfl, rfl⟩; (try refine And.intro rfl ?_))); (try simp (disch := omega) only [NS, ints_nums, ints_nil, ints_cons, eqL_nil, eqL_cons, eqS_int, eqS_bool, eqS_str, Nat.reduceBEq, Nat.reduceAdd, Nat.reduceMul, Int.reduceToNat, Nat.reduceSub, TY, slx, FA, FB, FC])) | (focus ((first | exact trivial | omega | (refine And.intro (by kernel_rfl) (And.intro ⟨_, (by first | exact nums_ints _ _ | rfl), (by first | exact nums_ints _ _ | rfl)⟩ (And.intro ?_ ?_)) <;> (first | rfl | assumption | (simp only [nums_length]; omega) | omega)) | (refine And.intro ?_ (And.intro ?_ ?_); (focus kernel_rfl); (focus kernel_rfl); (focus kernel_rfl)) | exact ld_nums i3 _ _ (by first | assumption | omega | (simp only [List.length_append]; omega)) | exact ld_nums i5 _ _ (by first | assumption | omega | (simp only [List.length_append]; omega)) | exact ld_nums i24 _ _ (by first | assumption | omega | (simp only [List.length_append]; omega)) | (show _ ≤ _; omega) | (simp only [List.length_take, List.length_drop, List.length_append, List.length_cons, List.length_nil]; omega) | ((repeat' (first | exact trivial | exact rfl | exact Nat.le_of_ble_eq_true rfl | refine And.intro ?_ ?_ | fail)); done) | ((try simp (disch := omega) only [NS, ints_nums, ints_nil, ints_cons, eqL_nil, eqL_cons, eqS_int, eqS_bool, eqS_str, Nat.reduceBEq, Nat.reduceAdd, Nat.reduceMul, Int.reduceToNat, Nat.reduceSub, TY, slx, FA, FB, FC]); (repeat' (first | exact trivial | exact rfl | exact ⟨_, _, rfl⟩ | exact ⟨_, rfl⟩ | exact Nat.le_of_ble_eq_true rfl | exact Nat.zero_lt_succ _ | omega | refine And.intro ?_ ?_ | fail)); done)); done))))
    | (refine AWL.guard2 rfl rfl rfl rfl rfl rfl ?_ ?_ <;> (intro hc; (try simp only [Bool.not_true, Bool.not_false] at hc); first | (cases hc; done) | ((try simp only [hc]); (try simp only [beq_iff_eq, bne_iff_ne, decide_eq_true_eq, decide_eq_false_iff_not, beq_eq_false_iff_ne, bne_eq_false_iff_eq, ne_eq, Bool.not_eq_true, Bool.not_eq_false, Bool.not_eq_eq_eq_not, Bool.not_true, Bool.not_false, Decidable.not_not, Int.not_lt, Int.not_le] at hc); (try (exfalso; omega)); (try (guard_hyp hc : True; clear hc)))))
    | (refine AWL.guard2 rfl rfl rfl rfl rfl rfl (fun hc => ?_) ?_; (cases hc; done))
    | (refine AW.drawn false hmix ?_ ?_; (focus kernel_rfl))
    | (refine AWL.guardU rfl rfl rfl rfl rfl rfl ?_; (try simp (disch := omega) only [NS, ints_nums, ints_nil, ints_cons, eqL_nil, eqL_cons, eqS_int, eqS_bool, eqS_str, Nat.reduceBEq, Nat.reduceAdd, Nat.reduceMul, Int.reduceToNat, Nat.reduceSub, TY, slx, FA, FB, FC]))
    | (refine DQ.guardU rfl rfl rfl rfl rfl rfl rfl ?_; (try simp (disch := omega) only [NS, ints_nums, ints_nil, ints_cons, eqL_nil, eqL_cons, eqS_int, eqS_bool, eqS_str, Nat.reduceBEq, Nat.reduceAdd, Nat.reduceMul, Int.reduceToNat, Nat.reduceSub, TY, slx, FA, FB, FC]))
    | refine DQ.tail rfl ?_
    | (refine DQ.guard2 rfl rfl rfl rfl rfl rfl rfl ?_ ?_ <;> (intro hc; (try simp only [Bool.not_true, Bool.not_false] at hc); first | (cases hc; done) | ((try simp only [hc]); (try simp only [beq_iff_eq, bne_iff_ne, decide_eq_true_eq, decide_eq_false_iff_not, beq_eq_false_iff_ne, bne_eq_false_iff_eq, ne_eq, Bool.not_eq_true, Bool.not_eq_false, Bool.not_eq_eq_eq_not, Bool.not_true, Bool.not_false, Decidable.not_not, Int.not_lt, Int.not_le] at hc); (try (exfalso; omega)); (try (guard_hyp hc : True; clear hc)))))
    | (refine AW.cond rfl (fun hc => ?_) (fun hc => ?_) <;> first | (cases hc; done) | ((try simp only [beq_iff_eq, bne_iff_ne, decide_eq_true_eq, decide_eq_false_iff_not, beq_eq_false_iff_ne, bne_eq_false_iff_eq, ne_eq, Bool.not_eq_true, Bool.not_eq_false, Bool.not_eq_eq_eq_not, Bool.not_true, Bool.not_false, Decidable.not_not, Int.not_lt, Int.not_le] at hc); (try (exfalso; omega)); (try (guard_hyp hc : True; clear hc))))
    | (refine EndQ.mk rfl rfl rfl ?_ ?_ ?_; (focus (first | exact Or.inl rfl | exact Or.inr rfl)); (focus ((first | exact trivial | omega | (refine And.intro (by kernel_rfl) (And.intro ⟨_, (by first | exact nums_ints _ _ | rfl), (by first | exact nums_ints _ _ | rfl)⟩ (And.intro ?_ ?_)) <;> (first | rfl | assumption | (simp only [nums_length]; omega) | omega)) | (refine And.intro ?_ (And.intro ?_ ?_); (focus kernel_rfl); (focus kernel_rfl); (focus kernel_rfl)) | exact ld_nums i3 _ _ (by first | assumption | omega | (simp only [List.length_append]; omega)) | exact ld_nums i5 _ _ (by first | assumption | omega | (simp only [List.length_append]; omega)) | exact ld_nums i24 _ _ (by first | assumption | omega | (simp only [List.length_append]; omega)) | (show _ ≤ _; omega) | (simp only [List.length_take, List.length_drop, List.length_append, List.length_cons, List.length_nil]; omega) | ((repeat' (first | exact trivial | exact rfl | exact Nat.le_of_ble_eq_true rfl | refine And.intro ?_ ?_ | fail)); done) | ((try simp (disch := omega) only [NS, ints_nums, ints_nil, ints_cons, eqL_nil, eqL_cons, eqS_int, eqS_bool, eqS_str, Nat.reduceBEq, Nat.reduceAdd, Nat.reduceMul, Int.reduceToNat, Nat.reduceSub, TY, slx, FA, FB, FC]); (repeat' (first | exact trivial | exact rfl | exact ⟨_, _, rfl⟩ | exact ⟨_, rfl⟩ | exact Nat.le_of_ble_eq_true rfl | exact Nat.zero_lt_succ _ | omega | refine And.intro ?_ ?_ | fail)); done)); done)); (try simp (disch := omega) only [NS, ints_nums, ints_nil, ints_cons, eqL_nil, eqL_cons, eqS_int, eqS_bool, eqS_str, Nat.reduceBEq, Nat.reduceAdd, Nat.reduceMul, Int.reduceToNat, Nat.reduceSub, TY, slx, FA, FB, FC]))
    | fail)
  refine AW.loop [0, 1, 4, 5, 6, 7] [4, 6] (fun t st => ∃ (k : Nat) (c : List V), st = FB (N % 2 ^ 64) sg ((s : Int) + 1) k c k ∧ k ≤ s + 1 ∧ t = s + 1 - k ∧ c = nums .u8 ((padU s N).take k)) ?_ ?_
  · exact ⟨_, 0, _, rfl, by omega, rfl, rfl⟩
  rintro t st ⟨k, c, rfl, hk, rfl, rfl⟩
  have htl : ((padU s N).take k).length = k := by rw [List.length_take]; omega
  by_cases hks : k < s + 1
  · repeat' (first
      | refine AW.seq ?_
      | refine AW.block ?_
      | refine AW.region ?_
      | (refine AW.skip ?_; (try simp only [thenQ, blockQ, ↓reduceIte, Nat.reduceEqDiff]))
      | (refine AW.ret ?_; (try simp only [thenQ, blockQ, ↓reduceIte, Nat.reduceEqDiff]))
      | (refine AW.exit ?_; (try simp only [thenQ, blockQ, ↓reduceIte, Nat.reduceEqDiff]))
      | (refine AWL.nil ?_; (try simp only [thenQ, blockQ, ↓reduceIte, Nat.reduceEqDiff]))
      | (refine DQ.nil ?_; (try simp only [thenQ, blockQ, ↓reduceIte, Nat.reduceEqDiff]))
      | ((first
        | (refine AWL.op (sl := SL) rfl rfl ?_ ?_)
        | (refine DQ.op rfl rfl rfl rfl rfl ?_ ?_)
        | (refine DQ.yes rfl ?_ ?_)
        | (refine DQ.step rfl rfl rfl rfl (QStep.assign rfl) ?_)
        | (refine AWL.frzA rfl rfl ?_)
        | (refine AWL.callV (f := 12) rfl rfl rfl rfl ?_ (Nat.le_of_ble_eq_true rfl) rfl (hUc) ?_; (focus kernel_rfl))
        | (refine AWL.call (f := 12) rfl rfl rfl ?_ rfl (Nat.le_of_ble_eq_true rfl) rfl (hUc) ?_; (focus kernel_rfl))
        | (refine CWr.call (f := 12) rfl ?_ rfl (hUc) (fun _ _ h => h) ?_ ?_ ?_; (focus kernel_rfl))
        | (refine DQ.step rfl rfl rfl rfl (QStep.call (f := 12) rfl ?_ rfl (hUc) (fun _ _ h => h) (fun _ => rfl)) ?_; (focus kernel_rfl))
        | (refine DQ.yesC (QStep.call (f := 12) rfl ?_ rfl (hUc) (fun _ _ h => h) (fun _ => rfl)) ?_; (focus kernel_rfl))
        | (refine AWL.callV (f := 14) rfl rfl rfl rfl ?_ (Nat.le_of_ble_eq_true rfl) rfl (hSc) ?_; (focus kernel_rfl))
        | (refine AWL.call (f := 14) rfl rfl rfl ?_ rfl (Nat.le_of_ble_eq_true rfl) rfl (hSc) ?_; (focus kernel_rfl))
        | (refine CWr.call (f := 14) rfl ?_ rfl (hSc) (fun _ _ h => h) ?_ ?_ ?_; (focus kernel_rfl))
        | (refine DQ.step rfl rfl rfl rfl (QStep.call (f := 14) rfl ?_ rfl (hSc) (fun _ _ h => h) (fun _ => rfl)) ?_; (focus kernel_rfl))
        | (refine DQ.yesC (QStep.call (f := 14) rfl ?_ rfl (hSc) (fun _ _ h => h) (fun _ => rfl)) ?_; (focus kernel_rfl))
        | fail) <;> (first | ((first | show AWL _ _ _ _ _ | show DQ _ _ _ _ _ _ | show AW _ _ _ _ | (rintro _ _ ⟨rfl, rfl⟩; (try refine And.intro rfl ?_))); (try simp (disch := omega) only [NS, ints_nums, ints_nil, ints_cons, eqL_nil, eqL_cons, eqS_int, eqS_bool, eqS_str, Nat.reduceBEq, Nat.reduceAdd, Nat.reduceMul, Int.reduceToNat, Nat.reduceSub, TY, slx, FA, FB, FC])) | (focus ((first | exact trivial | omega | (refine And.intro (by kernel_rfl) (And.intro ⟨_, (by first | exact nums_ints _ _ | rfl), (by first | exact nums_ints _ _ | rfl)⟩ (And.intro ?_ ?_)) <;> (first | rfl | assumption | (simp only [nums_length]; omega) | omega)) | (refine And.intro ?_ (And.intro ?_ ?_); (focus kernel_rfl); (focus kernel_rfl); (focus kernel_rfl)) | exact ld_nums i3 _ _ (by first | assumption | omega | (simp only [List.length_append]; omega)) | exact ld_nums i5 _ _ (by first | assumption | omega | (simp only [List.length_append]; omega)) | exact ld_nums i24 _ _ (by first | assumption | omega | (simp only [List.length_append]; omega)) | (show _ ≤ _; omega) | (simp only [List.length_take, List.length_drop, List.length_append, List.length_cons, List.length_nil]; omega) | ((repeat' (first | exact trivial | exact rfl | exact Nat.le_of_ble_eq_true rfl | refine And.intro ?_ ?_ | fail)); done) | ((try simp (disch := omega) only [NS, ints_nums, ints_nil, ints_cons, eqL_nil, eqL_cons, eqS_int, eqS_bool, eqS_str, Nat.reduceBEq, Nat.reduceAdd, Nat.reduceMul, Int.reduceToNat, Nat.reduceSub, TY, slx, FA, FB, FC]); (repeat' (first | exact trivial | exact rfl | exact ⟨_, _, rfl⟩ | exact ⟨_, rfl⟩ | exact Nat.le_of_ble_eq_true rfl | exact Nat.zero_lt_succ _ | omega | refine And.intro ?_ ?_ | fail)); done)); done))))
      | (refine AWL.guard2 rfl rfl rfl rfl rfl rfl ?_ ?_ <;> (intro hc; (try simp only [Bool.not_true, Bool.not_false] at hc); first | (cases hc; done) | ((try simp only [hc]); (try simp only [beq_iff_eq, bne_iff_ne, decide_eq_true_eq, decide_eq_false_iff_not, beq_eq_false_iff_ne, bne_eq_false_iff_eq, ne_eq, Bool.not_eq_true, Bool.not_eq_false, Bool.not_eq_eq_eq_not, Bool.not_true, Bool.not_false, Decidable.not_not, Int.not_lt, Int.not_le] at hc); (try (exfalso; omega)); (try (guard_hyp hc : True; clear hc)))))
      | (refine AWL.guard2 rfl rfl rfl rfl rfl rfl (fun hc => ?_) ?_; (cases hc; done))
      | (refine AW.drawn false hmix ?_ ?_; (focus kernel_rfl))
      | (refine AWL.guardU rfl rfl rfl rfl rfl rfl ?_; (try simp (disch := omega) only [NS, ints_nums, ints_nil, ints_cons, eqL_nil, eqL_cons, eqS_int, eqS_bool, eqS_str, Nat.reduceBEq, Nat.reduceAdd, Nat.reduceMul, Int.reduceToNat, Nat.reduceSub, TY, slx, FA, FB, FC]))
      | (refine DQ.guardU rfl rfl rfl rfl rfl rfl rfl ?_; (try simp (disch := omega) only [NS, ints_nums, ints_nil, ints_cons, eqL_nil, eqL_cons, eqS_int, eqS_bool, eqS_str, Nat.reduceBEq, Nat.reduceAdd, Nat.reduceMul, Int.reduceToNat, Nat.reduceSub, TY, slx, FA, FB, FC]))
      | refine DQ.tail rfl ?_
      | (refine DQ.guard2 rfl rfl rfl rfl rfl rfl rfl ?_ ?_ <;> (intro hc; (try simp only [Bool.not_true, Bool.not_false] at hc); first | (cases hc; done) | ((try simp only [hc]); (try simp only [beq_iff_eq, bne_iff_ne, decide_eq_true_eq, decide_eq_false_iff_not, beq_eq_false_iff_ne, bne_eq_false_iff_eq, ne_eq, Bool.not_eq_true, Bool.not_eq_false, Bool.not_eq_eq_eq_not, Bool.not_true, Bool.not_false, Decidable.not_not, Int.not_lt, Int.not_le] at hc); (try (exfalso; omega)); (try (guard_hyp hc : True; clear hc)))))
      | (refine AW.cond rfl (fun hc => ?_) (fun hc => ?_) <;> first | (cases hc; done) | ((try simp only [beq_iff_eq, bne_iff_ne, decide_eq_true_eq, decide_eq_false_iff_not, beq_eq_false_iff_ne, bne_eq_false_iff_eq, ne_eq, Bool.not_eq_true, Bool.not_eq_false, Bool.not_eq_eq_eq_not, Bool.not_true, Bool.not_false, Decidable.not_not, Int.not_lt, Int.not_le] at hc); (try (exfalso; omega)); (try (guard_hyp hc : True; clear hc))))
      | (refine EndQ.mk rfl rfl rfl ?_ ?_ ?_; (focus (first | exact Or.inl rfl | exact Or.inr rfl)); (focus ((first | exact trivial | omega | (refine And.intro (by kernel_rfl) (And.intro ⟨_, (by first | exact nums_ints _ _ | rfl), (by first | exact nums_ints _ _ | rfl)⟩ (And.intro ?_ ?_)) <;> (first | rfl | assumption | (simp only [nums_length]; omega) | omega)) | (refine And.intro ?_ (And.intro ?_ ?_); (focus kernel_rfl); (focus kernel_rfl); (focus kernel_rfl)) | exact ld_nums i3 _ _ (by first | assumption | omega | (simp only [List.length_append]; omega)) | exact ld_nums i5 _ _ (by first | assumption | omega | (simp only [List.length_append]; omega)) | exact ld_nums i24 _ _ (by first | assumption | omega | (simp only [List.length_append]; omega)) | (show _ ≤ _; omega) | (simp only [List.length_take, List.length_drop, List.length_append, List.length_cons, List.length_nil]; omega) | ((repeat' (first | exact trivial | exact rfl | exact Nat.le_of_ble_eq_true rfl | refine And.intro ?_ ?_ | fail)); done) | ((try simp (disch := omega) only [NS, ints_nums, ints_nil, ints_cons, eqL_nil, eqL_cons, eqS_int, eqS_bool, eqS_str, Nat.reduceBEq, Nat.reduceAdd, Nat.reduceMul, Int.reduceToNat, Nat.reduceSub, TY, slx, FA, FB, FC]); (repeat' (first | exact trivial | exact rfl | exact ⟨_, _, rfl⟩ | exact ⟨_, rfl⟩ | exact Nat.le_of_ble_eq_true rfl | exact Nat.zero_lt_succ _ | omega | refine And.intro ?_ ?_ | fail)); done)); done)); (try simp (disch := omega) only [NS, ints_nums, ints_nil, ints_cons, eqL_nil, eqL_cons, eqS_int, eqS_bool, eqS_str, Nat.reduceBEq, Nat.reduceAdd, Nat.reduceMul, Int.reduceToNat, Nat.reduceSub, TY, slx, FA, FB, FC]))
      | fail)
    refine AW.loop [0, 1, 4, 5, 6, 7, 8, 9] [4, 6] (fun t st => ∃ (i : Nat), st = FC (N % 2 ^ 64) sg ((s : Int) + 1) k (nums .u8 ((padU s N).take k)) k (N / 2 ^ (7 * k) % 2 ^ i) i ∧ i ≤ 7 ∧ t = 7 - i) ?_ ?_
    · exact ⟨_, 0, by rw [Int.pow_zero, Int.emod_one]; rfl, by omega, rfl⟩
    rintro t st ⟨i, rfl, hi, rfl⟩
    have hp : (0 : Int) < 2 ^ i := Int.pow_pos (by decide)
    have hx : 0 ≤ N / 2 ^ (7 * k) % 2 ^ i ∧ N / 2 ^ (7 * k) % 2 ^ i < 2 ^ i := ⟨Int.emod_nonneg _ (by omega), Int.emod_lt_of_pos _ hp⟩
    have e5 : IntKind.i64.wrap ((k : Int) + 1) = ((k + 1 : Nat) : Int) := wrap64_id _ (by omega) (by omega)
    by_cases hi7 : i < 7
    · have hst := step_bit (N / 2 ^ (7 * k)) i
      have hpe : N / 2 ^ (7 * k) / 2 ^ i = N / 2 ^ (7 * k + i) := by
        rw [Int.pow_add, ← Int.ediv_ediv_of_nonneg (by exact Int.le_of_lt (Int.pow_pos (by decide)))]
      have hv : N / 2 ^ (7 * k + i) % 2 = 0 ∨ N / 2 ^ (7 * k + i) % 2 = 1 := by omega
      have hor := or_bit hx hv hi7
      rw [← hpe, hst, hpe] at hor
      have e1 : IntKind.i64.wrap (7 * (k : Int)) = 7 * k := wrap64_id _ (by omega) (by omega)
      have e2 : IntKind.i64.wrap (7 * (k : Int) + (i : Int)) = ((7 * k + i : Nat) : Int) := wrap64_id _ (by omega) (by omega)
      have e3 : IntKind.u64.wrap ((7 * k + i : Nat) : Int) = ((7 * k + i : Nat) : Int) := wrap_in rfl (by omega) (by show _ < (18446744073709551616 : Int); omega)
      have e4 : IntKind.i64.wrap ((i : Int) + 1) = ((i + 1 : Nat) : Int) := wrap64_id _ (by omega) (by omega)
      have hn0 : 0 ≤ N % 2 ^ 64 := Int.emod_nonneg _ (by decide)
      have e6 : 7 * k + i < 64 → (N % 2 ^ 64).fdiv (2 ^ min (7 * k + i) IntKind.u64.bits) = N % 2 ^ 64 / 2 ^ (7 * k + i) := fun h => by
        rw [show min (7 * k + i) IntKind.u64.bits = 7 * k + i from Nat.min_eq_left (by show _ ≤ 64; omega), fdiv_pow _ _ hn0]
      have e7 : (N % 2 ^ 64 / 2 ^ (7 * k + i)).tmod 2 = N % 2 ^ 64 / 2 ^ (7 * k + i) % 2 := Int.tmod_eq_emod_of_nonneg (Int.ediv_nonneg hn0 (Int.le_of_lt (Int.pow_pos (by decide))))
      have e8 : 7 * k + i < 64 → IntKind.i64.wrap (N % 2 ^ 64 / 2 ^ (7 * k + i) % 2) = N / 2 ^ (7 * k + i) % 2 := fun h => by
        rw [bit_lo N _ h]; exact wrap64_id _ (by omega) (by omega)
      have e9 : (N % 2 ^ 64).fdiv (2 ^ min 63 IntKind.u64.bits) = N % 2 ^ 64 / 2 ^ 63 := by
        rw [show min 63 IntKind.u64.bits = 63 from rfl, fdiv_pow _ _ hn0]
      have e11 : IntKind.u64.wrap (i : Int) = i := wrap_in rfl (by omega) (by show _ < (18446744073709551616 : Int); omega)
      have hh := bit_hi hN (7 * k + i)
      by_cases h64 : 7 * k + i < 64
      · have e6 := e6 h64
        have e8 := e8 h64
        repeat' (first
          | refine AW.seq ?_
          | refine AW.block ?_
          | refine AW.region ?_
          | (refine AW.skip ?_; (try simp only [thenQ, blockQ, ↓reduceIte, Nat.reduceEqDiff]))
          | (refine AW.ret ?_; (try simp only [thenQ, blockQ, ↓reduceIte, Nat.reduceEqDiff]))
          | (refine AW.exit ?_; (try simp only [thenQ, blockQ, ↓reduceIte, Nat.reduceEqDiff]))
          | (refine AWL.nil ?_; (try simp only [thenQ, blockQ, ↓reduceIte, Nat.reduceEqDiff]))
          | (refine DQ.nil ?_; (try simp only [thenQ, blockQ, ↓reduceIte, Nat.reduceEqDiff]))
          | ((first
            | (refine AWL.op (sl := SL) rfl rfl ?_ ?_)
            | (refine DQ.op rfl rfl rfl rfl rfl ?_ ?_)
            | (refine DQ.yes rfl ?_ ?_)
            | (refine DQ.step rfl rfl rfl rfl (QStep.assign rfl) ?_)
            | (refine AWL.frzA rfl rfl ?_)
            | (refine AWL.callV (f := 12) rfl rfl rfl rfl ?_ (Nat.le_of_ble_eq_true rfl) rfl (hUc) ?_; (focus kernel_rfl))
            | (refine AWL.call (f := 12) rfl rfl rfl ?_ rfl (Nat.le_of_ble_eq_true rfl) rfl (hUc) ?_; (focus kernel_rfl))
            | (refine CWr.call (f := 12) rfl ?_ rfl (hUc) (fun _ _ h => h) ?_ ?_ ?_; (focus kernel_rfl))
            | (refine DQ.step rfl rfl rfl rfl (QStep.call (f := 12) rfl ?_ rfl (hUc) (fun _ _ h => h) (fun _ => rfl)) ?_; (focus kernel_rfl))
            | (refine DQ.yesC (QStep.call (f := 12) rfl ?_ rfl (hUc) (fun _ _ h => h) (fun _ => rfl)) ?_; (focus kernel_rfl))
            | (refine AWL.callV (f := 14) rfl rfl rfl rfl ?_ (Nat.le_of_ble_eq_true rfl) rfl (hSc) ?_; (focus kernel_rfl))
            | (refine AWL.call (f := 14) rfl rfl rfl ?_ rfl (Nat.le_of_ble_eq_true rfl) rfl (hSc) ?_; (focus kernel_rfl))
            | (refine CWr.call (f := 14) rfl ?_ rfl (hSc) (fun _ _ h => h) ?_ ?_ ?_; (focus kernel_rfl))
            | (refine DQ.step rfl rfl rfl rfl (QStep.call (f := 14) rfl ?_ rfl (hSc) (fun _ _ h => h) (fun _ => rfl)) ?_; (focus kernel_rfl))
            | (refine DQ.yesC (QStep.call (f := 14) rfl ?_ rfl (hSc) (fun _ _ h => h) (fun _ => rfl)) ?_; (focus kernel_rfl))
            | fail) <;> (first | ((first | show AWL _ _ _ _ _ | show DQ _ _ _ _ _ _ | show AW _ _ _ _ | (rintro _ _ ⟨rfl, rfl⟩; (try refine And.intro rfl ?_))); (try simp (disch := omega) only [NS, ints_nums, ints_nil, ints_cons, eqL_nil, eqL_cons, eqS_int, eqS_bool, eqS_str, Nat.reduceBEq, Nat.reduceAdd, Nat.reduceMul, Int.reduceToNat, Nat.reduceSub, TY, slx, FA, FB, FC, e1, e2, e3, e4, e5, e6, e7, e8, hor, e11])) | (focus ((first | exact trivial | omega | (refine And.intro (by kernel_rfl) (And.intro ⟨_, (by first | exact nums_ints _ _ | rfl), (by first | exact nums_ints _ _ | rfl)⟩ (And.intro ?_ ?_)) <;> (first | rfl | assumption | (simp only [nums_length]; omega) | omega)) | (refine And.intro ?_ (And.intro ?_ ?_); (focus kernel_rfl); (focus kernel_rfl); (focus kernel_rfl)) | exact ld_nums i3 _ _ (by first | assumption | omega | (simp only [List.length_append]; omega)) | exact ld_nums i5 _ _ (by first | assumption | omega | (simp only [List.length_append]; omega)) | exact ld_nums i24 _ _ (by first | assumption | omega | (simp only [List.length_append]; omega)) | (show _ ≤ _; omega) | (simp only [List.length_take, List.length_drop, List.length_append, List.length_cons, List.length_nil]; omega) | ((repeat' (first | exact trivial | exact rfl | exact Nat.le_of_ble_eq_true rfl | refine And.intro ?_ ?_ | fail)); done) | ((try simp (disch := omega) only [NS, ints_nums, ints_nil, ints_cons, eqL_nil, eqL_cons, eqS_int, eqS_bool, eqS_str, Nat.reduceBEq, Nat.reduceAdd, Nat.reduceMul, Int.reduceToNat, Nat.reduceSub, TY, slx, FA, FB, FC, e1, e2, e3, e4, e5, e6, e7, e8, hor, e11]); (repeat' (first | exact trivial | exact rfl | exact ⟨_, _, rfl⟩ | exact ⟨_, rfl⟩ | exact Nat.le_of_ble_eq_true rfl | exact Nat.zero_lt_succ _ | omega | refine And.intro ?_ ?_ | fail)); done)); done))))
          | (refine AWL.guard2 rfl rfl rfl rfl rfl rfl ?_ ?_ <;> (intro hc; (try simp only [Bool.not_true, Bool.not_false] at hc); first | (cases hc; done) | ((try simp only [hc]); (try simp only [beq_iff_eq, bne_iff_ne, decide_eq_true_eq, decide_eq_false_iff_not, beq_eq_false_iff_ne, bne_eq_false_iff_eq, ne_eq, Bool.not_eq_true, Bool.not_eq_false, Bool.not_eq_eq_eq_not, Bool.not_true, Bool.not_false, Decidable.not_not, Int.not_lt, Int.not_le] at hc); (try (exfalso; omega)); (try (guard_hyp hc : True; clear hc)))))
          | (refine AWL.guard2 rfl rfl rfl rfl rfl rfl (fun hc => ?_) ?_; (cases hc; done))
          | (refine AW.drawn false hmix ?_ ?_; (focus kernel_rfl))
          | (refine AWL.guardU rfl rfl rfl rfl rfl rfl ?_; (try simp (disch := omega) only [NS, ints_nums, ints_nil, ints_cons, eqL_nil, eqL_cons, eqS_int, eqS_bool, eqS_str, Nat.reduceBEq, Nat.reduceAdd, Nat.reduceMul, Int.reduceToNat, Nat.reduceSub, TY, slx, FA, FB, FC, e1, e2, e3, e4, e5, e6, e7, e8, hor, e11]))
          | (refine DQ.guardU rfl rfl rfl rfl rfl rfl rfl ?_; (try simp (disch := omega) only [NS, ints_nums, ints_nil, ints_cons, eqL_nil, eqL_cons, eqS_int, eqS_bool, eqS_str, Nat.reduceBEq, Nat.reduceAdd, Nat.reduceMul, Int.reduceToNat, Nat.reduceSub, TY, slx, FA, FB, FC, e1, e2, e3, e4, e5, e6, e7, e8, hor, e11]))
          | refine DQ.tail rfl ?_
          | (refine DQ.guard2 rfl rfl rfl rfl rfl rfl rfl ?_ ?_ <;> (intro hc; (try simp only [Bool.not_true, Bool.not_false] at hc); first | (cases hc; done) | ((try simp only [hc]); (try simp only [beq_iff_eq, bne_iff_ne, decide_eq_true_eq, decide_eq_false_iff_not, beq_eq_false_iff_ne, bne_eq_false_iff_eq, ne_eq, Bool.not_eq_true, Bool.not_eq_false, Bool.not_eq_eq_eq_not, Bool.not_true, Bool.not_false, Decidable.not_not, Int.not_lt, Int.not_le] at hc); (try (exfalso; omega)); (try (guard_hyp hc : True; clear hc)))))
          | (refine AW.cond rfl (fun hc => ?_) (fun hc => ?_) <;> first | (cases hc; done) | ((try simp only [beq_iff_eq, bne_iff_ne, decide_eq_true_eq, decide_eq_false_iff_not, beq_eq_false_iff_ne, bne_eq_false_iff_eq, ne_eq, Bool.not_eq_true, Bool.not_eq_false, Bool.not_eq_eq_eq_not, Bool.not_true, Bool.not_false, Decidable.not_not, Int.not_lt, Int.not_le] at hc); (try (exfalso; omega)); (try (guard_hyp hc : True; clear hc))))
          | (refine EndQ.mk rfl rfl rfl ?_ ?_ ?_; (focus (first | exact Or.inl rfl | exact Or.inr rfl)); (focus ((first | exact trivial | omega | (refine And.intro (by kernel_rfl) (And.intro ⟨_, (by first | exact nums_ints _ _ | rfl), (by first | exact nums_ints _ _ | rfl)⟩ (And.intro ?_ ?_)) <;> (first | rfl | assumption | (simp only [nums_length]; omega) | omega)) | (refine And.intro ?_ (And.intro ?_ ?_); (focus kernel_rfl); (focus kernel_rfl); (focus kernel_rfl)) | exact ld_nums i3 _ _ (by first | assumption | omega | (simp only [List.length_append]; omega)) | exact ld_nums i5 _ _ (by first | assumption | omega | (simp only [List.length_append]; omega)) | exact ld_nums i24 _ _ (by first | assumption | omega | (simp only [List.length_append]; omega)) | (show _ ≤ _; omega) | (simp only [List.length_take, List.length_drop, List.length_append, List.length_cons, List.length_nil]; omega) | ((repeat' (first | exact trivial | exact rfl | exact Nat.le_of_ble_eq_true rfl | refine And.intro ?_ ?_ | fail)); done) | ((try simp (disch := omega) only [NS, ints_nums, ints_nil, ints_cons, eqL_nil, eqL_cons, eqS_int, eqS_bool, eqS_str, Nat.reduceBEq, Nat.reduceAdd, Nat.reduceMul, Int.reduceToNat, Nat.reduceSub, TY, slx, FA, FB, FC, e1, e2, e3, e4, e5, e6, e7, e8, hor, e11]); (repeat' (first | exact trivial | exact rfl | exact ⟨_, _, rfl⟩ | exact ⟨_, rfl⟩ | exact Nat.le_of_ble_eq_true rfl | exact Nat.zero_lt_succ _ | omega | refine And.intro ?_ ?_ | fail)); done)); done)); (try simp (disch := omega) only [NS, ints_nums, ints_nil, ints_cons, eqL_nil, eqL_cons, eqS_int, eqS_bool, eqS_str, Nat.reduceBEq, Nat.reduceAdd, Nat.reduceMul, Int.reduceToNat, Nat.reduceSub, TY, slx, FA, FB, FC, e1, e2, e3, e4, e5, e6, e7, e8, hor, e11]))
          | fail)
        all_goals try simp (disch := omega) only [NS, ints_nums, ints_nil, ints_cons, eqL_nil, eqL_cons, eqS_int, eqS_bool, eqS_str, Nat.reduceBEq, Nat.reduceAdd, Nat.reduceMul, Int.reduceToNat, Nat.reduceSub, TY, slx, FA, FB, FC, e1, e2, e3, e4, e5, e6, e7, e8, hor, e11]
        all_goals first
          | exact ⟨7 - (i + 1), by omega, i + 1, rfl, by omega, rfl⟩
          | (exfalso; omega) | trace_state
      · have hh := hh (by omega)
        cases sg with
        | false =>
          rw [if_neg (by decide)] at hh
          rw [hh] at hor
          repeat' (first
            | refine AW.seq ?_
            | refine AW.block ?_
            | refine AW.region ?_
            | (refine AW.skip ?_; (try simp only [thenQ, blockQ, ↓reduceIte, Nat.reduceEqDiff]))
            | (refine AW.ret ?_; (try simp only [thenQ, blockQ, ↓reduceIte, Nat.reduceEqDiff]))
            | (refine AW.exit ?_; (try simp only [thenQ, blockQ, ↓reduceIte, Nat.reduceEqDiff]))
            | (refine AWL.nil ?_; (try simp only [thenQ, blockQ, ↓reduceIte, Nat.reduceEqDiff]))
            | (refine DQ.nil ?_; (try simp only [thenQ, blockQ, ↓reduceIte, Nat.reduceEqDiff]))
            | ((first
              | (refine AWL.op (sl := SL) rfl rfl ?_ ?_)
              | (refine DQ.op rfl rfl rfl rfl rfl ?_ ?_)
              | (refine DQ.yes rfl ?_ ?_)
              | (refine DQ.step rfl rfl rfl rfl (QStep.assign rfl) ?_)
              | (refine AWL.frzA rfl rfl ?_)
              | (refine AWL.callV (f := 12) rfl rfl rfl rfl ?_ (Nat.le_of_ble_eq_true rfl) rfl (hUc) ?_; (focus kernel_rfl))
              | (refine AWL.call (f := 12) rfl rfl rfl ?_ rfl (Nat.le_of_ble_eq_true rfl) rfl (hUc) ?_; (focus kernel_rfl))
              | (refine CWr.call (f := 12) rfl ?_ rfl (hUc) (fun _ _ h => h) ?_ ?_ ?_; (focus kernel_rfl))
              | (refine DQ.step rfl rfl rfl rfl (QStep.call (f := 12) rfl ?_ rfl (hUc) (fun _ _ h => h) (fun _ => rfl)) ?_; (focus kernel_rfl))
              | (refine DQ.yesC (QStep.call (f := 12) rfl ?_ rfl (hUc) (fun _ _ h => h) (fun _ => rfl)) ?_; (focus kernel_rfl))
              | (refine AWL.callV (f := 14) rfl rfl rfl rfl ?_ (Nat.le_of_ble_eq_true rfl) rfl (hSc) ?_; (focus kernel_rfl))
              | (refine AWL.call (f := 14) rfl rfl rfl ?_ rfl (Nat.le_of_ble_eq_true rfl) rfl (hSc) ?_; (focus kernel_rfl))
              | (refine CWr.call (f := 14) rfl ?_ rfl (hSc) (fun _ _ h => h) ?_ ?_ ?_; (focus kernel_rfl))
              | (refine DQ.step rfl rfl rfl rfl (QStep.call (f := 14) rfl ?_ rfl (hSc) (fun _ _ h => h) (fun _ => rfl)) ?_; (focus kernel_rfl))
              | (refine DQ.yesC (QStep.call (f := 14) rfl ?_ rfl (hSc) (fun _ _ h => h) (fun _ => rfl)) ?_; (focus kernel_rfl))
              | fail) <;> (first | ((first | show AWL _ _ _ _ _ | show DQ _ _ _ _ _ _ | show AW _ _ _ _ | (rintro _ _ ⟨rfl, rfl⟩; (try refine And.intro rfl ?_))); (try simp (disch := omega) only [NS, ints_nums, ints_nil, ints_cons, eqL_nil, eqL_cons, eqS_int, eqS_bool, eqS_str, Nat.reduceBEq, Nat.reduceAdd, Nat.reduceMul, Int.reduceToNat, Nat.reduceSub, TY, slx, FA, FB, FC, e1, e2, e3, e4, e5, hor, e11])) | (focus ((first | exact trivial | omega | (refine And.intro (by kernel_rfl) (And.intro ⟨_, (by first | exact nums_ints _ _ | rfl), (by first | exact nums_ints _ _ | rfl)⟩ (And.intro ?_ ?_)) <;> (first | rfl | assumption | (simp only [nums_length]; omega) | omega)) | (refine And.intro ?_ (And.intro ?_ ?_); (focus kernel_rfl); (focus kernel_rfl); (focus kernel_rfl)) | exact ld_nums i3 _ _ (by first | assumption | omega | (simp only [List.length_append]; omega)) | exact ld_nums i5 _ _ (by first | assumption | omega | (simp only [List.length_append]; omega)) | exact ld_nums i24 _ _ (by first | assumption | omega | (simp only [List.length_append]; omega)) | (show _ ≤ _; omega) | (simp only [List.length_take, List.length_drop, List.length_append, List.length_cons, List.length_nil]; omega) | ((repeat' (first | exact trivial | exact rfl | exact Nat.le_of_ble_eq_true rfl | refine And.intro ?_ ?_ | fail)); done) | ((try simp (disch := omega) only [NS, ints_nums, ints_nil, ints_cons, eqL_nil, eqL_cons, eqS_int, eqS_bool, eqS_str, Nat.reduceBEq, Nat.reduceAdd, Nat.reduceMul, Int.reduceToNat, Nat.reduceSub, TY, slx, FA, FB, FC, e1, e2, e3, e4, e5, hor, e11]); (repeat' (first | exact trivial | exact rfl | exact ⟨_, _, rfl⟩ | exact ⟨_, rfl⟩ | exact Nat.le_of_ble_eq_true rfl | exact Nat.zero_lt_succ _ | omega | refine And.intro ?_ ?_ | fail)); done)); done))))
            | (refine AWL.guard2 rfl rfl rfl rfl rfl rfl ?_ ?_ <;> (intro hc; (try simp only [Bool.not_true, Bool.not_false] at hc); first | (cases hc; done) | ((try simp only [hc]); (try simp only [beq_iff_eq, bne_iff_ne, decide_eq_true_eq, decide_eq_false_iff_not, beq_eq_false_iff_ne, bne_eq_false_iff_eq, ne_eq, Bool.not_eq_true, Bool.not_eq_false, Bool.not_eq_eq_eq_not, Bool.not_true, Bool.not_false, Decidable.not_not, Int.not_lt, Int.not_le] at hc); (try (exfalso; omega)); (try (guard_hyp hc : True; clear hc)))))
            | (refine AWL.guard2 rfl rfl rfl rfl rfl rfl (fun hc => ?_) ?_; (cases hc; done))
            | (refine AW.drawn false hmix ?_ ?_; (focus kernel_rfl))
            | (refine AWL.guardU rfl rfl rfl rfl rfl rfl ?_; (try simp (disch := omega) only [NS, ints_nums, ints_nil, ints_cons, eqL_nil, eqL_cons, eqS_int, eqS_bool, eqS_str, Nat.reduceBEq, Nat.reduceAdd, Nat.reduceMul, Int.reduceToNat, Nat.reduceSub, TY, slx, FA, FB, FC, e1, e2, e3, e4, e5, hor, e11]))
            | (refine DQ.guardU rfl rfl rfl rfl rfl rfl rfl ?_; (try simp (disch := omega) only [NS, ints_nums, ints_nil, ints_cons, eqL_nil, eqL_cons, eqS_int, eqS_bool, eqS_str, Nat.reduceBEq, Nat.reduceAdd, Nat.reduceMul, Int.reduceToNat, Nat.reduceSub, TY, slx, FA, FB, FC, e1, e2, e3, e4, e5, hor, e11]))
            | refine DQ.tail rfl ?_
            | (refine DQ.guard2 rfl rfl rfl rfl rfl rfl rfl ?_ ?_ <;> (intro hc; (try simp only [Bool.not_true, Bool.not_false] at hc); first | (cases hc; done) | ((try simp only [hc]); (try simp only [beq_iff_eq, bne_iff_ne, decide_eq_true_eq, decide_eq_false_iff_not, beq_eq_false_iff_ne, bne_eq_false_iff_eq, ne_eq, Bool.not_eq_true, Bool.not_eq_false, Bool.not_eq_eq_eq_not, Bool.not_true, Bool.not_false, Decidable.not_not, Int.not_lt, Int.not_le] at hc); (try (exfalso; omega)); (try (guard_hyp hc : True; clear hc)))))
            | (refine AW.cond rfl (fun hc => ?_) (fun hc => ?_) <;> first | (cases hc; done) | ((try simp only [beq_iff_eq, bne_iff_ne, decide_eq_true_eq, decide_eq_false_iff_not, beq_eq_false_iff_ne, bne_eq_false_iff_eq, ne_eq, Bool.not_eq_true, Bool.not_eq_false, Bool.not_eq_eq_eq_not, Bool.not_true, Bool.not_false, Decidable.not_not, Int.not_lt, Int.not_le] at hc); (try (exfalso; omega)); (try (guard_hyp hc : True; clear hc))))
            | (refine EndQ.mk rfl rfl rfl ?_ ?_ ?_; (focus (first | exact Or.inl rfl | exact Or.inr rfl)); (focus ((first | exact trivial | omega | (refine And.intro (by kernel_rfl) (And.intro ⟨_, (by first | exact nums_ints _ _ | rfl), (by first | exact nums_ints _ _ | rfl)⟩ (And.intro ?_ ?_)) <;> (first | rfl | assumption | (simp only [nums_length]; omega) | omega)) | (refine And.intro ?_ (And.intro ?_ ?_); (focus kernel_rfl); (focus kernel_rfl); (focus kernel_rfl)) | exact ld_nums i3 _ _ (by first | assumption | omega | (simp only [List.length_append]; omega)) | exact ld_nums i5 _ _ (by first | assumption | omega | (simp only [List.length_append]; omega)) | exact ld_nums i24 _ _ (by first | assumption | omega | (simp only [List.length_append]; omega)) | (show _ ≤ _; omega) | (simp only [List.length_take, List.length_drop, List.length_append, List.length_cons, List.length_nil]; omega) | ((repeat' (first | exact trivial | exact rfl | exact Nat.le_of_ble_eq_true rfl | refine And.intro ?_ ?_ | fail)); done) | ((try simp (disch := omega) only [NS, ints_nums, ints_nil, ints_cons, eqL_nil, eqL_cons, eqS_int, eqS_bool, eqS_str, Nat.reduceBEq, Nat.reduceAdd, Nat.reduceMul, Int.reduceToNat, Nat.reduceSub, TY, slx, FA, FB, FC, e1, e2, e3, e4, e5, hor, e11]); (repeat' (first | exact trivial | exact rfl | exact ⟨_, _, rfl⟩ | exact ⟨_, rfl⟩ | exact Nat.le_of_ble_eq_true rfl | exact Nat.zero_lt_succ _ | omega | refine And.intro ?_ ?_ | fail)); done)); done)); (try simp (disch := omega) only [NS, ints_nums, ints_nil, ints_cons, eqL_nil, eqL_cons, eqS_int, eqS_bool, eqS_str, Nat.reduceBEq, Nat.reduceAdd, Nat.reduceMul, Int.reduceToNat, Nat.reduceSub, TY, slx, FA, FB, FC, e1, e2, e3, e4, e5, hor, e11]))
            | fail)
          all_goals try simp (disch := omega) only [NS, ints_nums, ints_nil, ints_cons, eqL_nil, eqL_cons, eqS_int, eqS_bool, eqS_str, Nat.reduceBEq, Nat.reduceAdd, Nat.reduceMul, Int.reduceToNat, Nat.reduceSub, TY, slx, FA, FB, FC, e1, e2, e3, e4, e5, hor, e11]
          all_goals first
            | exact ⟨7 - (i + 1), by omega, i + 1, rfl, by omega, rfl⟩
            | (exfalso; omega) | trace_state
        | true =>
          rw [if_pos rfl] at hh
          have e10 : IntKind.i64.wrap (N % 2 ^ 64 / 2 ^ 63) = N / 2 ^ (7 * k + i) % 2 := by rw [← hh]; exact wrap64_id _ (by omega) (by omega)
          repeat' (first
            | refine AW.seq ?_
            | refine AW.block ?_
            | refine AW.region ?_
            | (refine AW.skip ?_; (try simp only [thenQ, blockQ, ↓reduceIte, Nat.reduceEqDiff]))
            | (refine AW.ret ?_; (try simp only [thenQ, blockQ, ↓reduceIte, Nat.reduceEqDiff]))
            | (refine AW.exit ?_; (try simp only [thenQ, blockQ, ↓reduceIte, Nat.reduceEqDiff]))
            | (refine AWL.nil ?_; (try simp only [thenQ, blockQ, ↓reduceIte, Nat.reduceEqDiff]))
            | (refine DQ.nil ?_; (try simp only [thenQ, blockQ, ↓reduceIte, Nat.reduceEqDiff]))
            | ((first
              | (refine AWL.op (sl := SL) rfl rfl ?_ ?_)
              | (refine DQ.op rfl rfl rfl rfl rfl ?_ ?_)
              | (refine DQ.yes rfl ?_ ?_)
              | (refine DQ.step rfl rfl rfl rfl (QStep.assign rfl) ?_)
              | (refine AWL.frzA rfl rfl ?_)
              | (refine AWL.callV (f := 12) rfl rfl rfl rfl ?_ (Nat.le_of_ble_eq_true rfl) rfl (hUc) ?_; (focus kernel_rfl))
              | (refine AWL.call (f := 12) rfl rfl rfl ?_ rfl (Nat.le_of_ble_eq_true rfl) rfl (hUc) ?_; (focus kernel_rfl))
              | (refine CWr.call (f := 12) rfl ?_ rfl (hUc) (fun _ _ h => h) ?_ ?_ ?_; (focus kernel_rfl))
              | (refine DQ.step rfl rfl rfl rfl (QStep.call (f := 12) rfl ?_ rfl (hUc) (fun _ _ h => h) (fun _ => rfl)) ?_; (focus kernel_rfl))
              | (refine DQ.yesC (QStep.call (f := 12) rfl ?_ rfl (hUc) (fun _ _ h => h) (fun _ => rfl)) ?_; (focus kernel_rfl))
              | (refine AWL.callV (f := 14) rfl rfl rfl rfl ?_ (Nat.le_of_ble_eq_true rfl) rfl (hSc) ?_; (focus kernel_rfl))
              | (refine AWL.call (f := 14) rfl rfl rfl ?_ rfl (Nat.le_of_ble_eq_true rfl) rfl (hSc) ?_; (focus kernel_rfl))
              | (refine CWr.call (f := 14) rfl ?_ rfl (hSc) (fun _ _ h => h) ?_ ?_ ?_; (focus kernel_rfl))
              | (refine DQ.step rfl rfl rfl rfl (QStep.call (f := 14) rfl ?_ rfl (hSc) (fun _ _ h => h) (fun _ => rfl)) ?_; (focus kernel_rfl))
              | (refine DQ.yesC (QStep.call (f := 14) rfl ?_ rfl (hSc) (fun _ _ h => h) (fun _ => rfl)) ?_; (focus kernel_rfl))
              | fail) <;> (first | ((first | show AWL _ _ _ _ _ | show DQ _ _ _ _ _ _ | show AW _ _ _ _ | (rintro _ _ ⟨rfl, rfl⟩; (try refine And.intro rfl ?_))); (try simp (disch := omega) only [NS, ints_nums, ints_nil, ints_cons, eqL_nil, eqL_cons, eqS_int, eqS_bool, eqS_str, Nat.reduceBEq, Nat.reduceAdd, Nat.reduceMul, Int.reduceToNat, Nat.reduceSub, TY, slx, FA, FB, FC, e1, e2, e3, e4, e5, e9, e10, hor, e11])) | (focus ((first | exact trivial | omega | (refine And.intro (by kernel_rfl) (And.intro ⟨_, (by first | exact nums_ints _ _ | rfl), (by first | exact nums_ints _ _ | rfl)⟩ (And.intro ?_ ?_)) <;> (first | rfl | assumption | (simp only [nums_length]; omega) | omega)) | (refine And.intro ?_ (And.intro ?_ ?_); (focus kernel_rfl); (focus kernel_rfl); (focus kernel_rfl)) | exact ld_nums i3 _ _ (by first | assumption | omega | (simp only [List.length_append]; omega)) | exact ld_nums i5 _ _ (by first | assumption | omega | (simp only [List.length_append]; omega)) | exact ld_nums i24 _ _ (by first | assumption | omega | (simp only [List.length_append]; omega)) | (show _ ≤ _; omega) | (simp only [List.length_take, List.length_drop, List.length_append, List.length_cons, List.length_nil]; omega) | ((repeat' (first | exact trivial | exact rfl | exact Nat.le_of_ble_eq_true rfl | refine And.intro ?_ ?_ | fail)); done) | ((try simp (disch := omega) only [NS, ints_nums, ints_nil, ints_cons, eqL_nil, eqL_cons, eqS_int, eqS_bool, eqS_str, Nat.reduceBEq, Nat.reduceAdd, Nat.reduceMul, Int.reduceToNat, Nat.reduceSub, TY, slx, FA, FB, FC, e1, e2, e3, e4, e5, e9, e10, hor, e11]); (repeat' (first | exact trivial | exact rfl | exact ⟨_, _, rfl⟩ | exact ⟨_, rfl⟩ | exact Nat.le_of_ble_eq_true rfl | exact Nat.zero_lt_succ _ | omega | refine And.intro ?_ ?_ | fail)); done)); done))))
            | (refine AWL.guard2 rfl rfl rfl rfl rfl rfl ?_ ?_ <;> (intro hc; (try simp only [Bool.not_true, Bool.not_false] at hc); first | (cases hc; done) | ((try simp only [hc]); (try simp only [beq_iff_eq, bne_iff_ne, decide_eq_true_eq, decide_eq_false_iff_not, beq_eq_false_iff_ne, bne_eq_false_iff_eq, ne_eq, Bool.not_eq_true, Bool.not_eq_false, Bool.not_eq_eq_eq_not, Bool.not_true, Bool.not_false, Decidable.not_not, Int.not_lt, Int.not_le] at hc); (try (exfalso; omega)); (try (guard_hyp hc : True; clear hc)))))
            | (refine AWL.guard2 rfl rfl rfl rfl rfl rfl (fun hc => ?_) ?_; (cases hc; done))
            | (refine AW.drawn false hmix ?_ ?_; (focus kernel_rfl))
            | (refine AWL.guardU rfl rfl rfl rfl rfl rfl ?_; (try simp (disch := omega) only [NS, ints_nums, ints_nil, ints_cons, eqL_nil, eqL_cons, eqS_int, eqS_bool, eqS_str, Nat.reduceBEq, Nat.reduceAdd, Nat.reduceMul, Int.reduceToNat, Nat.reduceSub, TY, slx, FA, FB, FC, e1, e2, e3, e4, e5, e9, e10, hor, e11]))
            | (refine DQ.guardU rfl rfl rfl rfl rfl rfl rfl ?_; (try simp (disch := omega) only [NS, ints_nums, ints_nil, ints_cons, eqL_nil, eqL_cons, eqS_int, eqS_bool, eqS_str, Nat.reduceBEq, Nat.reduceAdd, Nat.reduceMul, Int.reduceToNat, Nat.reduceSub, TY, slx, FA, FB, FC, e1, e2, e3, e4, e5, e9, e10, hor, e11]))
            | refine DQ.tail rfl ?_
            | (refine DQ.guard2 rfl rfl rfl rfl rfl rfl rfl ?_ ?_ <;> (intro hc; (try simp only [Bool.not_true, Bool.not_false] at hc); first | (cases hc; done) | ((try simp only [hc]); (try simp only [beq_iff_eq, bne_iff_ne, decide_eq_true_eq, decide_eq_false_iff_not, beq_eq_false_iff_ne, bne_eq_false_iff_eq, ne_eq, Bool.not_eq_true, Bool.not_eq_false, Bool.not_eq_eq_eq_not, Bool.not_true, Bool.not_false, Decidable.not_not, Int.not_lt, Int.not_le] at hc); (try (exfalso; omega)); (try (guard_hyp hc : True; clear hc)))))
            | (refine AW.cond rfl (fun hc => ?_) (fun hc => ?_) <;> first | (cases hc; done) | ((try simp only [beq_iff_eq, bne_iff_ne, decide_eq_true_eq, decide_eq_false_iff_not, beq_eq_false_iff_ne, bne_eq_false_iff_eq, ne_eq, Bool.not_eq_true, Bool.not_eq_false, Bool.not_eq_eq_eq_not, Bool.not_true, Bool.not_false, Decidable.not_not, Int.not_lt, Int.not_le] at hc); (try (exfalso; omega)); (try (guard_hyp hc : True; clear hc))))
            | (refine EndQ.mk rfl rfl rfl ?_ ?_ ?_; (focus (first | exact Or.inl rfl | exact Or.inr rfl)); (focus ((first | exact trivial | omega | (refine And.intro (by kernel_rfl) (And.intro ⟨_, (by first | exact nums_ints _ _ | rfl), (by first | exact nums_ints _ _ | rfl)⟩ (And.intro ?_ ?_)) <;> (first | rfl | assumption | (simp only [nums_length]; omega) | omega)) | (refine And.intro ?_ (And.intro ?_ ?_); (focus kernel_rfl); (focus kernel_rfl); (focus kernel_rfl)) | exact ld_nums i3 _ _ (by first | assumption | omega | (simp only [List.length_append]; omega)) | exact ld_nums i5 _ _ (by first | assumption | omega | (simp only [List.length_append]; omega)) | exact ld_nums i24 _ _ (by first | assumption | omega | (simp only [List.length_append]; omega)) | (show _ ≤ _; omega) | (simp only [List.length_take, List.length_drop, List.length_append, List.length_cons, List.length_nil]; omega) | ((repeat' (first | exact trivial | exact rfl | exact Nat.le_of_ble_eq_true rfl | refine And.intro ?_ ?_ | fail)); done) | ((try simp (disch := omega) only [NS, ints_nums, ints_nil, ints_cons, eqL_nil, eqL_cons, eqS_int, eqS_bool, eqS_str, Nat.reduceBEq, Nat.reduceAdd, Nat.reduceMul, Int.reduceToNat, Nat.reduceSub, TY, slx, FA, FB, FC, e1, e2, e3, e4, e5, e9, e10, hor, e11]); (repeat' (first | exact trivial | exact rfl | exact ⟨_, _, rfl⟩ | exact ⟨_, rfl⟩ | exact Nat.le_of_ble_eq_true rfl | exact Nat.zero_lt_succ _ | omega | refine And.intro ?_ ?_ | fail)); done)); done)); (try simp (disch := omega) only [NS, ints_nums, ints_nil, ints_cons, eqL_nil, eqL_cons, eqS_int, eqS_bool, eqS_str, Nat.reduceBEq, Nat.reduceAdd, Nat.reduceMul, Int.reduceToNat, Nat.reduceSub, TY, slx, FA, FB, FC, e1, e2, e3, e4, e5, e9, e10, hor, e11]))
            | fail)
          all_goals try simp (disch := omega) only [NS, ints_nums, ints_nil, ints_cons, eqL_nil, eqL_cons, eqS_int, eqS_bool, eqS_str, Nat.reduceBEq, Nat.reduceAdd, Nat.reduceMul, Int.reduceToNat, Nat.reduceSub, TY, slx, FA, FB, FC, e1, e2, e3, e4, e5, e9, e10, hor, e11]
          all_goals first
            | exact ⟨7 - (i + 1), by omega, i + 1, rfl, by omega, rfl⟩
            | (exfalso; omega) | trace_state
    · obtain rfl : i = 7 := by omega
      have htn := take_next s N k (by omega)
      have e1 : (2 : Int) ^ 7 = 128 := rfl
      have hTT : ((padU s N).take k).take k = (padU s N).take k := by rw [List.take_take, Nat.min_self]
      have e2 : IntKind.i64.wrap ((s : Int) + 1 - 1) = s := by rw [Int.add_sub_cancel]; exact wrap64_id _ (by omega) (by omega)
      have e3 : bitsOp .or .u8 (N / 2 ^ (7 * k) % 128) 128 = N / 2 ^ (7 * k) % 128 + 128 := by
        have := lowByte (N / 2 ^ (7 * k) % 128)
        rwa [show IntKind.u8.wrap (N / 2 ^ (7 * k) % 128) = N / 2 ^ (7 * k) % 128 from wrap_in rfl (by omega) (by show _ < (256 : Int); omega), show N / 2 ^ (7 * k) % 128 % 128 = N / 2 ^ (7 * k) % 128 from by omega] at this
      by_cases hk2 : k < s
      · rw [if_pos hk2] at htn
        repeat' (first
          | refine AW.seq ?_
          | refine AW.block ?_
          | refine AW.region ?_
          | (refine AW.skip ?_; (try simp only [thenQ, blockQ, ↓reduceIte, Nat.reduceEqDiff]))
          | (refine AW.ret ?_; (try simp only [thenQ, blockQ, ↓reduceIte, Nat.reduceEqDiff]))
          | (refine AW.exit ?_; (try simp only [thenQ, blockQ, ↓reduceIte, Nat.reduceEqDiff]))
          | (refine AWL.nil ?_; (try simp only [thenQ, blockQ, ↓reduceIte, Nat.reduceEqDiff]))
          | (refine DQ.nil ?_; (try simp only [thenQ, blockQ, ↓reduceIte, Nat.reduceEqDiff]))
          | ((first
            | (refine AWL.op (sl := SL) rfl rfl ?_ ?_)
            | (refine DQ.op rfl rfl rfl rfl rfl ?_ ?_)
            | (refine DQ.yes rfl ?_ ?_)
            | (refine DQ.step rfl rfl rfl rfl (QStep.assign rfl) ?_)
            | (refine AWL.frzA rfl rfl ?_)
            | (refine AWL.callV (f := 12) rfl rfl rfl rfl ?_ (Nat.le_of_ble_eq_true rfl) rfl (hUc) ?_; (focus kernel_rfl))
            | (refine AWL.call (f := 12) rfl rfl rfl ?_ rfl (Nat.le_of_ble_eq_true rfl) rfl (hUc) ?_; (focus kernel_rfl))
            | (refine CWr.call (f := 12) rfl ?_ rfl (hUc) (fun _ _ h => h) ?_ ?_ ?_; (focus kernel_rfl))
            | (refine DQ.step rfl rfl rfl rfl (QStep.call (f := 12) rfl ?_ rfl (hUc) (fun _ _ h => h) (fun _ => rfl)) ?_; (focus kernel_rfl))
            | (refine DQ.yesC (QStep.call (f := 12) rfl ?_ rfl (hUc) (fun _ _ h => h) (fun _ => rfl)) ?_; (focus kernel_rfl))
            | (refine AWL.callV (f := 14) rfl rfl rfl rfl ?_ (Nat.le_of_ble_eq_true rfl) rfl (hSc) ?_; (focus kernel_rfl))
            | (refine AWL.call (f := 14) rfl rfl rfl ?_ rfl (Nat.le_of_ble_eq_true rfl) rfl (hSc) ?_; (focus kernel_rfl))
            | (refine CWr.call (f := 14) rfl ?_ rfl (hSc) (fun _ _ h => h) ?_ ?_ ?_; (focus kernel_rfl))
            | (refine DQ.step rfl rfl rfl rfl (QStep.call (f := 14) rfl ?_ rfl (hSc) (fun _ _ h => h) (fun _ => rfl)) ?_; (focus kernel_rfl))
            | (refine DQ.yesC (QStep.call (f := 14) rfl ?_ rfl (hSc) (fun _ _ h => h) (fun _ => rfl)) ?_; (focus kernel_rfl))
            | fail) <;> (first | ((first | show AWL _ _ _ _ _ | show DQ _ _ _ _ _ _ | show AW _ _ _ _ | (rintro _ _ ⟨rfl, rfl⟩; (try refine And.intro rfl ?_))); (try simp (disch := omega) only [NS, ints_nums, ints_nil, ints_cons, eqL_nil, eqL_cons, eqS_int, eqS_bool, eqS_str, Nat.reduceBEq, Nat.reduceAdd, Nat.reduceMul, Int.reduceToNat, Nat.reduceSub, TY, slx, FA, FB, FC, e1, e2, e3, e5, hTT])) | (focus ((first | exact trivial | omega | (refine And.intro (by kernel_rfl) (And.intro ⟨_, (by first | exact nums_ints _ _ | rfl), (by first | exact nums_ints _ _ | rfl)⟩ (And.intro ?_ ?_)) <;> (first | rfl | assumption | (simp only [nums_length]; omega) | omega)) | (refine And.intro ?_ (And.intro ?_ ?_); (focus kernel_rfl); (focus kernel_rfl); (focus kernel_rfl)) | exact ld_nums i3 _ _ (by first | assumption | omega | (simp only [List.length_append]; omega)) | exact ld_nums i5 _ _ (by first | assumption | omega | (simp only [List.length_append]; omega)) | exact ld_nums i24 _ _ (by first | assumption | omega | (simp only [List.length_append]; omega)) | (show _ ≤ _; omega) | (simp only [List.length_take, List.length_drop, List.length_append, List.length_cons, List.length_nil]; omega) | ((repeat' (first | exact trivial | exact rfl | exact Nat.le_of_ble_eq_true rfl | refine And.intro ?_ ?_ | fail)); done) | ((try simp (disch := omega) only [NS, ints_nums, ints_nil, ints_cons, eqL_nil, eqL_cons, eqS_int, eqS_bool, eqS_str, Nat.reduceBEq, Nat.reduceAdd, Nat.reduceMul, Int.reduceToNat, Nat.reduceSub, TY, slx, FA, FB, FC, e1, e2, e3, e5, hTT]); (repeat' (first | exact trivial | exact rfl | exact ⟨_, _, rfl⟩ | exact ⟨_, rfl⟩ | exact Nat.le_of_ble_eq_true rfl | exact Nat.zero_lt_succ _ | omega | refine And.intro ?_ ?_ | fail)); done)); done))))
          | (refine AWL.guard2 rfl rfl rfl rfl rfl rfl ?_ ?_ <;> (intro hc; (try simp only [Bool.not_true, Bool.not_false] at hc); first | (cases hc; done) | ((try simp only [hc]); (try simp only [beq_iff_eq, bne_iff_ne, decide_eq_true_eq, decide_eq_false_iff_not, beq_eq_false_iff_ne, bne_eq_false_iff_eq, ne_eq, Bool.not_eq_true, Bool.not_eq_false, Bool.not_eq_eq_eq_not, Bool.not_true, Bool.not_false, Decidable.not_not, Int.not_lt, Int.not_le] at hc); (try (exfalso; omega)); (try (guard_hyp hc : True; clear hc)))))
          | (refine AWL.guard2 rfl rfl rfl rfl rfl rfl (fun hc => ?_) ?_; (cases hc; done))
          | (refine AW.drawn false hmix ?_ ?_; (focus kernel_rfl))
          | (refine AWL.guardU rfl rfl rfl rfl rfl rfl ?_; (try simp (disch := omega) only [NS, ints_nums, ints_nil, ints_cons, eqL_nil, eqL_cons, eqS_int, eqS_bool, eqS_str, Nat.reduceBEq, Nat.reduceAdd, Nat.reduceMul, Int.reduceToNat, Nat.reduceSub, TY, slx, FA, FB, FC, e1, e2, e3, e5, hTT]))
          | (refine DQ.guardU rfl rfl rfl rfl rfl rfl rfl ?_; (try simp (disch := omega) only [NS, ints_nums, ints_nil, ints_cons, eqL_nil, eqL_cons, eqS_int, eqS_bool, eqS_str, Nat.reduceBEq, Nat.reduceAdd, Nat.reduceMul, Int.reduceToNat, Nat.reduceSub, TY, slx, FA, FB, FC, e1, e2, e3, e5, hTT]))
          | refine DQ.tail rfl ?_
          | (refine DQ.guard2 rfl rfl rfl rfl rfl rfl rfl ?_ ?_ <;> (intro hc; (try simp only [Bool.not_true, Bool.not_false] at hc); first | (cases hc; done) | ((try simp only [hc]); (try simp only [beq_iff_eq, bne_iff_ne, decide_eq_true_eq, decide_eq_false_iff_not, beq_eq_false_iff_ne, bne_eq_false_iff_eq, ne_eq, Bool.not_eq_true, Bool.not_eq_false, Bool.not_eq_eq_eq_not, Bool.not_true, Bool.not_false, Decidable.not_not, Int.not_lt, Int.not_le] at hc); (try (exfalso; omega)); (try (guard_hyp hc : True; clear hc)))))
          | (refine AW.cond rfl (fun hc => ?_) (fun hc => ?_) <;> first | (cases hc; done) | ((try simp only [beq_iff_eq, bne_iff_ne, decide_eq_true_eq, decide_eq_false_iff_not, beq_eq_false_iff_ne, bne_eq_false_iff_eq, ne_eq, Bool.not_eq_true, Bool.not_eq_false, Bool.not_eq_eq_eq_not, Bool.not_true, Bool.not_false, Decidable.not_not, Int.not_lt, Int.not_le] at hc); (try (exfalso; omega)); (try (guard_hyp hc : True; clear hc))))
          | (refine EndQ.mk rfl rfl rfl ?_ ?_ ?_; (focus (first | exact Or.inl rfl | exact Or.inr rfl)); (focus ((first | exact trivial | omega | (refine And.intro (by kernel_rfl) (And.intro ⟨_, (by first | exact nums_ints _ _ | rfl), (by first | exact nums_ints _ _ | rfl)⟩ (And.intro ?_ ?_)) <;> (first | rfl | assumption | (simp only [nums_length]; omega) | omega)) | (refine And.intro ?_ (And.intro ?_ ?_); (focus kernel_rfl); (focus kernel_rfl); (focus kernel_rfl)) | exact ld_nums i3 _ _ (by first | assumption | omega | (simp only [List.length_append]; omega)) | exact ld_nums i5 _ _ (by first | assumption | omega | (simp only [List.length_append]; omega)) | exact ld_nums i24 _ _ (by first | assumption | omega | (simp only [List.length_append]; omega)) | (show _ ≤ _; omega) | (simp only [List.length_take, List.length_drop, List.length_append, List.length_cons, List.length_nil]; omega) | ((repeat' (first | exact trivial | exact rfl | exact Nat.le_of_ble_eq_true rfl | refine And.intro ?_ ?_ | fail)); done) | ((try simp (disch := omega) only [NS, ints_nums, ints_nil, ints_cons, eqL_nil, eqL_cons, eqS_int, eqS_bool, eqS_str, Nat.reduceBEq, Nat.reduceAdd, Nat.reduceMul, Int.reduceToNat, Nat.reduceSub, TY, slx, FA, FB, FC, e1, e2, e3, e5, hTT]); (repeat' (first | exact trivial | exact rfl | exact ⟨_, _, rfl⟩ | exact ⟨_, rfl⟩ | exact Nat.le_of_ble_eq_true rfl | exact Nat.zero_lt_succ _ | omega | refine And.intro ?_ ?_ | fail)); done)); done)); (try simp (disch := omega) only [NS, ints_nums, ints_nil, ints_cons, eqL_nil, eqL_cons, eqS_int, eqS_bool, eqS_str, Nat.reduceBEq, Nat.reduceAdd, Nat.reduceMul, Int.reduceToNat, Nat.reduceSub, TY, slx, FA, FB, FC, e1, e2, e3, e5, hTT]))
          | fail)
        all_goals try simp (disch := omega) only [NS, ints_nums, ints_nil, ints_cons, eqL_nil, eqL_cons, eqS_int, eqS_bool, eqS_str, Nat.reduceBEq, Nat.reduceAdd, Nat.reduceMul, Int.reduceToNat, Nat.reduceSub, TY, slx, FA, FB, FC, e1, e2, e3, e5, hTT]
        all_goals first
          | exact ⟨s + 1 - (k + 1), by omega, k + 1, _, rfl, by omega, rfl, by rw [htn]⟩
          | (exfalso; omega) | trace_state
      · rw [if_neg hk2, Int.add_zero] at htn
        repeat' (first
          | refine AW.seq ?_
          | refine AW.block ?_
          | refine AW.region ?_
          | (refine AW.skip ?_; (try simp only [thenQ, blockQ, ↓reduceIte, Nat.reduceEqDiff]))
          | (refine AW.ret ?_; (try simp only [thenQ, blockQ, ↓reduceIte, Nat.reduceEqDiff]))
          | (refine AW.exit ?_; (try simp only [thenQ, blockQ, ↓reduceIte, Nat.reduceEqDiff]))
          | (refine AWL.nil ?_; (try simp only [thenQ, blockQ, ↓reduceIte, Nat.reduceEqDiff]))
          | (refine DQ.nil ?_; (try simp only [thenQ, blockQ, ↓reduceIte, Nat.reduceEqDiff]))
          | ((first
            | (refine AWL.op (sl := SL) rfl rfl ?_ ?_)
            | (refine DQ.op rfl rfl rfl rfl rfl ?_ ?_)
            | (refine DQ.yes rfl ?_ ?_)
            | (refine DQ.step rfl rfl rfl rfl (QStep.assign rfl) ?_)
            | (refine AWL.frzA rfl rfl ?_)
            | (refine AWL.callV (f := 12) rfl rfl rfl rfl ?_ (Nat.le_of_ble_eq_true rfl) rfl (hUc) ?_; (focus kernel_rfl))
            | (refine AWL.call (f := 12) rfl rfl rfl ?_ rfl (Nat.le_of_ble_eq_true rfl) rfl (hUc) ?_; (focus kernel_rfl))
            | (refine CWr.call (f := 12) rfl ?_ rfl (hUc) (fun _ _ h => h) ?_ ?_ ?_; (focus kernel_rfl))
            | (refine DQ.step rfl rfl rfl rfl (QStep.call (f := 12) rfl ?_ rfl (hUc) (fun _ _ h => h) (fun _ => rfl)) ?_; (focus kernel_rfl))
            | (refine DQ.yesC (QStep.call (f := 12) rfl ?_ rfl (hUc) (fun _ _ h => h) (fun _ => rfl)) ?_; (focus kernel_rfl))
            | (refine AWL.callV (f := 14) rfl rfl rfl rfl ?_ (Nat.le_of_ble_eq_true rfl) rfl (hSc) ?_; (focus kernel_rfl))
            | (refine AWL.call (f := 14) rfl rfl rfl ?_ rfl (Nat.le_of_ble_eq_true rfl) rfl (hSc) ?_; (focus kernel_rfl))
            | (refine CWr.call (f := 14) rfl ?_ rfl (hSc) (fun _ _ h => h) ?_ ?_ ?_; (focus kernel_rfl))
            | (refine DQ.step rfl rfl rfl rfl (QStep.call (f := 14) rfl ?_ rfl (hSc) (fun _ _ h => h) (fun _ => rfl)) ?_; (focus kernel_rfl))
            | (refine DQ.yesC (QStep.call (f := 14) rfl ?_ rfl (hSc) (fun _ _ h => h) (fun _ => rfl)) ?_; (focus kernel_rfl))
            | fail) <;> (first | ((first | show AWL _ _ _ _ _ | show DQ _ _ _ _ _ _ | show AW _ _ _ _ | (rintro _ _ ⟨rfl, rfl⟩; (try refine And.intro rfl ?_))); (try simp (disch := omega) only [NS, ints_nums, ints_nil, ints_cons, eqL_nil, eqL_cons, eqS_int, eqS_bool, eqS_str, Nat.reduceBEq, Nat.reduceAdd, Nat.reduceMul, Int.reduceToNat, Nat.reduceSub, TY, slx, FA, FB, FC, e1, e2, e3, e5, hTT])) | (focus ((first | exact trivial | omega | (refine And.intro (by kernel_rfl) (And.intro ⟨_, (by first | exact nums_ints _ _ | rfl), (by first | exact nums_ints _ _ | rfl)⟩ (And.intro ?_ ?_)) <;> (first | rfl | assumption | (simp only [nums_length]; omega) | omega)) | (refine And.intro ?_ (And.intro ?_ ?_); (focus kernel_rfl); (focus kernel_rfl); (focus kernel_rfl)) | exact ld_nums i3 _ _ (by first | assumption | omega | (simp only [List.length_append]; omega)) | exact ld_nums i5 _ _ (by first | assumption | omega | (simp only [List.length_append]; omega)) | exact ld_nums i24 _ _ (by first | assumption | omega | (simp only [List.length_append]; omega)) | (show _ ≤ _; omega) | (simp only [List.length_take, List.length_drop, List.length_append, List.length_cons, List.length_nil]; omega) | ((repeat' (first | exact trivial | exact rfl | exact Nat.le_of_ble_eq_true rfl | refine And.intro ?_ ?_ | fail)); done) | ((try simp (disch := omega) only [NS, ints_nums, ints_nil, ints_cons, eqL_nil, eqL_cons, eqS_int, eqS_bool, eqS_str, Nat.reduceBEq, Nat.reduceAdd, Nat.reduceMul, Int.reduceToNat, Nat.reduceSub, TY, slx, FA, FB, FC, e1, e2, e3, e5, hTT]); (repeat' (first | exact trivial | exact rfl | exact ⟨_, _, rfl⟩ | exact ⟨_, rfl⟩ | exact Nat.le_of_ble_eq_true rfl | exact Nat.zero_lt_succ _ | omega | refine And.intro ?_ ?_ | fail)); done)); done))))
          | (refine AWL.guard2 rfl rfl rfl rfl rfl rfl ?_ ?_ <;> (intro hc; (try simp only [Bool.not_true, Bool.not_false] at hc); first | (cases hc; done) | ((try simp only [hc]); (try simp only [beq_iff_eq, bne_iff_ne, decide_eq_true_eq, decide_eq_false_iff_not, beq_eq_false_iff_ne, bne_eq_false_iff_eq, ne_eq, Bool.not_eq_true, Bool.not_eq_false, Bool.not_eq_eq_eq_not, Bool.not_true, Bool.not_false, Decidable.not_not, Int.not_lt, Int.not_le] at hc); (try (exfalso; omega)); (try (guard_hyp hc : True; clear hc)))))
          | (refine AWL.guard2 rfl rfl rfl rfl rfl rfl (fun hc => ?_) ?_; (cases hc; done))
          | (refine AW.drawn false hmix ?_ ?_; (focus kernel_rfl))
          | (refine AWL.guardU rfl rfl rfl rfl rfl rfl ?_; (try simp (disch := omega) only [NS, ints_nums, ints_nil, ints_cons, eqL_nil, eqL_cons, eqS_int, eqS_bool, eqS_str, Nat.reduceBEq, Nat.reduceAdd, Nat.reduceMul, Int.reduceToNat, Nat.reduceSub, TY, slx, FA, FB, FC, e1, e2, e3, e5, hTT]))
          | (refine DQ.guardU rfl rfl rfl rfl rfl rfl rfl ?_; (try simp (disch := omega) only [NS, ints_nums, ints_nil, ints_cons, eqL_nil, eqL_cons, eqS_int, eqS_bool, eqS_str, Nat.reduceBEq, Nat.reduceAdd, Nat.reduceMul, Int.reduceToNat, Nat.reduceSub, TY, slx, FA, FB, FC, e1, e2, e3, e5, hTT]))
          | refine DQ.tail rfl ?_
          | (refine DQ.guard2 rfl rfl rfl rfl rfl rfl rfl ?_ ?_ <;> (intro hc; (try simp only [Bool.not_true, Bool.not_false] at hc); first | (cases hc; done) | ((try simp only [hc]); (try simp only [beq_iff_eq, bne_iff_ne, decide_eq_true_eq, decide_eq_false_iff_not, beq_eq_false_iff_ne, bne_eq_false_iff_eq, ne_eq, Bool.not_eq_true, Bool.not_eq_false, Bool.not_eq_eq_eq_not, Bool.not_true, Bool.not_false, Decidable.not_not, Int.not_lt, Int.not_le] at hc); (try (exfalso; omega)); (try (guard_hyp hc : True; clear hc)))))
          | (refine AW.cond rfl (fun hc => ?_) (fun hc => ?_) <;> first | (cases hc; done) | ((try simp only [beq_iff_eq, bne_iff_ne, decide_eq_true_eq, decide_eq_false_iff_not, beq_eq_false_iff_ne, bne_eq_false_iff_eq, ne_eq, Bool.not_eq_true, Bool.not_eq_false, Bool.not_eq_eq_eq_not, Bool.not_true, Bool.not_false, Decidable.not_not, Int.not_lt, Int.not_le] at hc); (try (exfalso; omega)); (try (guard_hyp hc : True; clear hc))))
          | (refine EndQ.mk rfl rfl rfl ?_ ?_ ?_; (focus (first | exact Or.inl rfl | exact Or.inr rfl)); (focus ((first | exact trivial | omega | (refine And.intro (by kernel_rfl) (And.intro ⟨_, (by first | exact nums_ints _ _ | rfl), (by first | exact nums_ints _ _ | rfl)⟩ (And.intro ?_ ?_)) <;> (first | rfl | assumption | (simp only [nums_length]; omega) | omega)) | (refine And.intro ?_ (And.intro ?_ ?_); (focus kernel_rfl); (focus kernel_rfl); (focus kernel_rfl)) | exact ld_nums i3 _ _ (by first | assumption | omega | (simp only [List.length_append]; omega)) | exact ld_nums i5 _ _ (by first | assumption | omega | (simp only [List.length_append]; omega)) | exact ld_nums i24 _ _ (by first | assumption | omega | (simp only [List.length_append]; omega)) | (show _ ≤ _; omega) | (simp only [List.length_take, List.length_drop, List.length_append, List.length_cons, List.length_nil]; omega) | ((repeat' (first | exact trivial | exact rfl | exact Nat.le_of_ble_eq_true rfl | refine And.intro ?_ ?_ | fail)); done) | ((try simp (disch := omega) only [NS, ints_nums, ints_nil, ints_cons, eqL_nil, eqL_cons, eqS_int, eqS_bool, eqS_str, Nat.reduceBEq, Nat.reduceAdd, Nat.reduceMul, Int.reduceToNat, Nat.reduceSub, TY, slx, FA, FB, FC, e1, e2, e3, e5, hTT]); (repeat' (first | exact trivial | exact rfl | exact ⟨_, _, rfl⟩ | exact ⟨_, rfl⟩ | exact Nat.le_of_ble_eq_true rfl | exact Nat.zero_lt_succ _ | omega | refine And.intro ?_ ?_ | fail)); done)); done)); (try simp (disch := omega) only [NS, ints_nums, ints_nil, ints_cons, eqL_nil, eqL_cons, eqS_int, eqS_bool, eqS_str, Nat.reduceBEq, Nat.reduceAdd, Nat.reduceMul, Int.reduceToNat, Nat.reduceSub, TY, slx, FA, FB, FC, e1, e2, e3, e5, hTT]))
          | fail)
        all_goals try simp (disch := omega) only [NS, ints_nums, ints_nil, ints_cons, eqL_nil, eqL_cons, eqS_int, eqS_bool, eqS_str, Nat.reduceBEq, Nat.reduceAdd, Nat.reduceMul, Int.reduceToNat, Nat.reduceSub, TY, slx, FA, FB, FC, e1, e2, e3, e5, hTT]
        all_goals first
          | exact ⟨s + 1 - (k + 1), by omega, k + 1, _, rfl, by omega, rfl, by rw [htn]⟩
          | (exfalso; omega) | trace_state
  · obtain rfl : k = s + 1 := by omega
    have e0 : (padU s N).take (s + 1) = padU s N := List.take_of_length_le (by omega)
    have e5 : IntKind.i64.wrap ((s : Int) + 1 + 1) = ((s + 1 : Nat) : Int) + 1 := wrap64_id _ (by omega) (by omega)
    cases sg with
    | false =>
      obtain ⟨b1, b2⟩ := back_u hN hs
      rw [b1] at hUc
      by_cases hr : rangeF false s N
      · have b3 := b2.2 hr
        have b4 := putF_is hN hr hno
        rw [b4] at hUc e0
        rw [← b4, hl, b4]
        repeat' (first
          | refine AW.seq ?_
          | refine AW.block ?_
          | refine AW.region ?_
          | (refine AW.skip ?_; (try simp only [thenQ, blockQ, ↓reduceIte, Nat.reduceEqDiff]))
          | (refine AW.ret ?_; (try simp only [thenQ, blockQ, ↓reduceIte, Nat.reduceEqDiff]))
          | (refine AW.exit ?_; (try simp only [thenQ, blockQ, ↓reduceIte, Nat.reduceEqDiff]))
          | (refine AWL.nil ?_; (try simp only [thenQ, blockQ, ↓reduceIte, Nat.reduceEqDiff]))
          | (refine DQ.nil ?_; (try simp only [thenQ, blockQ, ↓reduceIte, Nat.reduceEqDiff]))
          | ((first
            | (refine AWL.op (sl := SL) rfl rfl ?_ ?_)
            | (refine DQ.op rfl rfl rfl rfl rfl ?_ ?_)
            | (refine DQ.yes rfl ?_ ?_)
            | (refine DQ.step rfl rfl rfl rfl (QStep.assign rfl) ?_)
            | (refine AWL.frzA rfl rfl ?_)
            | (refine AWL.callV (f := 12) rfl rfl rfl rfl ?_ (Nat.le_of_ble_eq_true rfl) rfl (hUc) ?_; (focus kernel_rfl))
            | (refine AWL.call (f := 12) rfl rfl rfl ?_ rfl (Nat.le_of_ble_eq_true rfl) rfl (hUc) ?_; (focus kernel_rfl))
            | (refine CWr.call (f := 12) rfl ?_ rfl (hUc) (fun _ _ h => h) ?_ ?_ ?_; (focus kernel_rfl))
            | (refine DQ.step rfl rfl rfl rfl (QStep.call (f := 12) rfl ?_ rfl (hUc) (fun _ _ h => h) (fun _ => rfl)) ?_; (focus kernel_rfl))
            | (refine DQ.yesC (QStep.call (f := 12) rfl ?_ rfl (hUc) (fun _ _ h => h) (fun _ => rfl)) ?_; (focus kernel_rfl))
            | (refine AWL.callV (f := 14) rfl rfl rfl rfl ?_ (Nat.le_of_ble_eq_true rfl) rfl (hSc) ?_; (focus kernel_rfl))
            | (refine AWL.call (f := 14) rfl rfl rfl ?_ rfl (Nat.le_of_ble_eq_true rfl) rfl (hSc) ?_; (focus kernel_rfl))
            | (refine CWr.call (f := 14) rfl ?_ rfl (hSc) (fun _ _ h => h) ?_ ?_ ?_; (focus kernel_rfl))
            | (refine DQ.step rfl rfl rfl rfl (QStep.call (f := 14) rfl ?_ rfl (hSc) (fun _ _ h => h) (fun _ => rfl)) ?_; (focus kernel_rfl))
            | (refine DQ.yesC (QStep.call (f := 14) rfl ?_ rfl (hSc) (fun _ _ h => h) (fun _ => rfl)) ?_; (focus kernel_rfl))
            | fail) <;> (first | ((first | show AWL _ _ _ _ _ | show DQ _ _ _ _ _ _ | show AW _ _ _ _ | (rintro _ _ ⟨rfl, rfl⟩; (try refine And.intro rfl ?_))); (try simp (disch := omega) only [NS, ints_nums, ints_nil, ints_cons, eqL_nil, eqL_cons, eqS_int, eqS_bool, eqS_str, Nat.reduceBEq, Nat.reduceAdd, Nat.reduceMul, Int.reduceToNat, Nat.reduceSub, TY, slx, FA, FB, FC, e0, b3, b4, beq_self_eq_true, decide_true])) | (focus ((first | exact trivial | omega | (refine And.intro (by kernel_rfl) (And.intro ⟨_, (by first | exact nums_ints _ _ | rfl), (by first | exact nums_ints _ _ | rfl)⟩ (And.intro ?_ ?_)) <;> (first | rfl | assumption | (simp only [nums_length]; omega) | omega)) | (refine And.intro ?_ (And.intro ?_ ?_); (focus kernel_rfl); (focus kernel_rfl); (focus kernel_rfl)) | exact ld_nums i3 _ _ (by first | assumption | omega | (simp only [List.length_append]; omega)) | exact ld_nums i5 _ _ (by first | assumption | omega | (simp only [List.length_append]; omega)) | exact ld_nums i24 _ _ (by first | assumption | omega | (simp only [List.length_append]; omega)) | (show _ ≤ _; omega) | (simp only [List.length_take, List.length_drop, List.length_append, List.length_cons, List.length_nil]; omega) | ((repeat' (first | exact trivial | exact rfl | exact Nat.le_of_ble_eq_true rfl | refine And.intro ?_ ?_ | fail)); done) | ((try simp (disch := omega) only [NS, ints_nums, ints_nil, ints_cons, eqL_nil, eqL_cons, eqS_int, eqS_bool, eqS_str, Nat.reduceBEq, Nat.reduceAdd, Nat.reduceMul, Int.reduceToNat, Nat.reduceSub, TY, slx, FA, FB, FC, e0, b3, b4, beq_self_eq_true, decide_true]); (repeat' (first | exact trivial | exact rfl | exact ⟨_, _, rfl⟩ | exact ⟨_, rfl⟩ | exact Nat.le_of_ble_eq_true rfl | exact Nat.zero_lt_succ _ | omega | refine And.intro ?_ ?_ | fail)); done)); done))))
          | (refine AWL.guard2 rfl rfl rfl rfl rfl rfl ?_ ?_ <;> (intro hc; (try simp only [Bool.not_true, Bool.not_false] at hc); first | (cases hc; done) | ((try simp only [hc]); (try simp only [beq_iff_eq, bne_iff_ne, decide_eq_true_eq, decide_eq_false_iff_not, beq_eq_false_iff_ne, bne_eq_false_iff_eq, ne_eq, Bool.not_eq_true, Bool.not_eq_false, Bool.not_eq_eq_eq_not, Bool.not_true, Bool.not_false, Decidable.not_not, Int.not_lt, Int.not_le] at hc); (try (exfalso; omega)); (try (guard_hyp hc : True; clear hc)))))
          | (refine AWL.guard2 rfl rfl rfl rfl rfl rfl (fun hc => ?_) ?_; (cases hc; done))
          | (refine AW.drawn false hmix ?_ ?_; (focus kernel_rfl))
          | (refine AWL.guardU rfl rfl rfl rfl rfl rfl ?_; (try simp (disch := omega) only [NS, ints_nums, ints_nil, ints_cons, eqL_nil, eqL_cons, eqS_int, eqS_bool, eqS_str, Nat.reduceBEq, Nat.reduceAdd, Nat.reduceMul, Int.reduceToNat, Nat.reduceSub, TY, slx, FA, FB, FC, e0, b3, b4, beq_self_eq_true, decide_true]))
          | (refine DQ.guardU rfl rfl rfl rfl rfl rfl rfl ?_; (try simp (disch := omega) only [NS, ints_nums, ints_nil, ints_cons, eqL_nil, eqL_cons, eqS_int, eqS_bool, eqS_str, Nat.reduceBEq, Nat.reduceAdd, Nat.reduceMul, Int.reduceToNat, Nat.reduceSub, TY, slx, FA, FB, FC, e0, b3, b4, beq_self_eq_true, decide_true]))
          | refine DQ.tail rfl ?_
          | (refine DQ.guard2 rfl rfl rfl rfl rfl rfl rfl ?_ ?_ <;> (intro hc; (try simp only [Bool.not_true, Bool.not_false] at hc); first | (cases hc; done) | ((try simp only [hc]); (try simp only [beq_iff_eq, bne_iff_ne, decide_eq_true_eq, decide_eq_false_iff_not, beq_eq_false_iff_ne, bne_eq_false_iff_eq, ne_eq, Bool.not_eq_true, Bool.not_eq_false, Bool.not_eq_eq_eq_not, Bool.not_true, Bool.not_false, Decidable.not_not, Int.not_lt, Int.not_le] at hc); (try (exfalso; omega)); (try (guard_hyp hc : True; clear hc)))))
          | (refine AW.cond rfl (fun hc => ?_) (fun hc => ?_) <;> first | (cases hc; done) | ((try simp only [beq_iff_eq, bne_iff_ne, decide_eq_true_eq, decide_eq_false_iff_not, beq_eq_false_iff_ne, bne_eq_false_iff_eq, ne_eq, Bool.not_eq_true, Bool.not_eq_false, Bool.not_eq_eq_eq_not, Bool.not_true, Bool.not_false, Decidable.not_not, Int.not_lt, Int.not_le] at hc); (try (exfalso; omega)); (try (guard_hyp hc : True; clear hc))))
          | (refine EndQ.mk rfl rfl rfl ?_ ?_ ?_; (focus (first | exact Or.inl rfl | exact Or.inr rfl)); (focus ((first | exact trivial | omega | (refine And.intro (by kernel_rfl) (And.intro ⟨_, (by first | exact nums_ints _ _ | rfl), (by first | exact nums_ints _ _ | rfl)⟩ (And.intro ?_ ?_)) <;> (first | rfl | assumption | (simp only [nums_length]; omega) | omega)) | (refine And.intro ?_ (And.intro ?_ ?_); (focus kernel_rfl); (focus kernel_rfl); (focus kernel_rfl)) | exact ld_nums i3 _ _ (by first | assumption | omega | (simp only [List.length_append]; omega)) | exact ld_nums i5 _ _ (by first | assumption | omega | (simp only [List.length_append]; omega)) | exact ld_nums i24 _ _ (by first | assumption | omega | (simp only [List.length_append]; omega)) | (show _ ≤ _; omega) | (simp only [List.length_take, List.length_drop, List.length_append, List.length_cons, List.length_nil]; omega) | ((repeat' (first | exact trivial | exact rfl | exact Nat.le_of_ble_eq_true rfl | refine And.intro ?_ ?_ | fail)); done) | ((try simp (disch := omega) only [NS, ints_nums, ints_nil, ints_cons, eqL_nil, eqL_cons, eqS_int, eqS_bool, eqS_str, Nat.reduceBEq, Nat.reduceAdd, Nat.reduceMul, Int.reduceToNat, Nat.reduceSub, TY, slx, FA, FB, FC, e0, b3, b4, beq_self_eq_true, decide_true]); (repeat' (first | exact trivial | exact rfl | exact ⟨_, _, rfl⟩ | exact ⟨_, rfl⟩ | exact Nat.le_of_ble_eq_true rfl | exact Nat.zero_lt_succ _ | omega | refine And.intro ?_ ?_ | fail)); done)); done)); (try simp (disch := omega) only [NS, ints_nums, ints_nil, ints_cons, eqL_nil, eqL_cons, eqS_int, eqS_bool, eqS_str, Nat.reduceBEq, Nat.reduceAdd, Nat.reduceMul, Int.reduceToNat, Nat.reduceSub, TY, slx, FA, FB, FC, e0, b3, b4, beq_self_eq_true, decide_true]))
          | fail)
        all_goals first | exact ⟨trivial, trivial⟩ | exact ⟨rfl, trivial⟩ | exact ⟨rfl, rfl⟩ | exact ⟨trivial, rfl⟩ | (exact ⟨by rw [← b4, e0], trivial⟩) | (exfalso; omega) | trace_state
      · have b3 : (N % 2 ^ (7 * (s + 1)) == N % 2 ^ 64) = false := by
          rw [beq_eq_false_iff_ne]; exact fun e => hr (b2.1 e)
        repeat' (first
          | refine AW.seq ?_
          | refine AW.block ?_
          | refine AW.region ?_
          | (refine AW.skip ?_; (try simp only [thenQ, blockQ, ↓reduceIte, Nat.reduceEqDiff]))
          | (refine AW.ret ?_; (try simp only [thenQ, blockQ, ↓reduceIte, Nat.reduceEqDiff]))
          | (refine AW.exit ?_; (try simp only [thenQ, blockQ, ↓reduceIte, Nat.reduceEqDiff]))
          | (refine AWL.nil ?_; (try simp only [thenQ, blockQ, ↓reduceIte, Nat.reduceEqDiff]))
          | (refine DQ.nil ?_; (try simp only [thenQ, blockQ, ↓reduceIte, Nat.reduceEqDiff]))
          | ((first
            | (refine AWL.op (sl := SL) rfl rfl ?_ ?_)
            | (refine DQ.op rfl rfl rfl rfl rfl ?_ ?_)
            | (refine DQ.yes rfl ?_ ?_)
            | (refine DQ.step rfl rfl rfl rfl (QStep.assign rfl) ?_)
            | (refine AWL.frzA rfl rfl ?_)
            | (refine AWL.callV (f := 12) rfl rfl rfl rfl ?_ (Nat.le_of_ble_eq_true rfl) rfl (hUc) ?_; (focus kernel_rfl))
            | (refine AWL.call (f := 12) rfl rfl rfl ?_ rfl (Nat.le_of_ble_eq_true rfl) rfl (hUc) ?_; (focus kernel_rfl))
            | (refine CWr.call (f := 12) rfl ?_ rfl (hUc) (fun _ _ h => h) ?_ ?_ ?_; (focus kernel_rfl))
            | (refine DQ.step rfl rfl rfl rfl (QStep.call (f := 12) rfl ?_ rfl (hUc) (fun _ _ h => h) (fun _ => rfl)) ?_; (focus kernel_rfl))
            | (refine DQ.yesC (QStep.call (f := 12) rfl ?_ rfl (hUc) (fun _ _ h => h) (fun _ => rfl)) ?_; (focus kernel_rfl))
            | (refine AWL.callV (f := 14) rfl rfl rfl rfl ?_ (Nat.le_of_ble_eq_true rfl) rfl (hSc) ?_; (focus kernel_rfl))
            | (refine AWL.call (f := 14) rfl rfl rfl ?_ rfl (Nat.le_of_ble_eq_true rfl) rfl (hSc) ?_; (focus kernel_rfl))
            | (refine CWr.call (f := 14) rfl ?_ rfl (hSc) (fun _ _ h => h) ?_ ?_ ?_; (focus kernel_rfl))
            | (refine DQ.step rfl rfl rfl rfl (QStep.call (f := 14) rfl ?_ rfl (hSc) (fun _ _ h => h) (fun _ => rfl)) ?_; (focus kernel_rfl))
            | (refine DQ.yesC (QStep.call (f := 14) rfl ?_ rfl (hSc) (fun _ _ h => h) (fun _ => rfl)) ?_; (focus kernel_rfl))
            | fail) <;> (first | ((first | show AWL _ _ _ _ _ | show DQ _ _ _ _ _ _ | show AW _ _ _ _ | (rintro _ _ ⟨rfl, rfl⟩; (try refine And.intro rfl ?_))); (try simp (disch := omega) only [NS, ints_nums, ints_nil, ints_cons, eqL_nil, eqL_cons, eqS_int, eqS_bool, eqS_str, Nat.reduceBEq, Nat.reduceAdd, Nat.reduceMul, Int.reduceToNat, Nat.reduceSub, TY, slx, FA, FB, FC, e0, b3])) | (focus ((first | exact trivial | omega | (refine And.intro (by kernel_rfl) (And.intro ⟨_, (by first | exact nums_ints _ _ | rfl), (by first | exact nums_ints _ _ | rfl)⟩ (And.intro ?_ ?_)) <;> (first | rfl | assumption | (simp only [nums_length]; omega) | omega)) | (refine And.intro ?_ (And.intro ?_ ?_); (focus kernel_rfl); (focus kernel_rfl); (focus kernel_rfl)) | exact ld_nums i3 _ _ (by first | assumption | omega | (simp only [List.length_append]; omega)) | exact ld_nums i5 _ _ (by first | assumption | omega | (simp only [List.length_append]; omega)) | exact ld_nums i24 _ _ (by first | assumption | omega | (simp only [List.length_append]; omega)) | (show _ ≤ _; omega) | (simp only [List.length_take, List.length_drop, List.length_append, List.length_cons, List.length_nil]; omega) | ((repeat' (first | exact trivial | exact rfl | exact Nat.le_of_ble_eq_true rfl | refine And.intro ?_ ?_ | fail)); done) | ((try simp (disch := omega) only [NS, ints_nums, ints_nil, ints_cons, eqL_nil, eqL_cons, eqS_int, eqS_bool, eqS_str, Nat.reduceBEq, Nat.reduceAdd, Nat.reduceMul, Int.reduceToNat, Nat.reduceSub, TY, slx, FA, FB, FC, e0, b3]); (repeat' (first | exact trivial | exact rfl | exact ⟨_, _, rfl⟩ | exact ⟨_, rfl⟩ | exact Nat.le_of_ble_eq_true rfl | exact Nat.zero_lt_succ _ | omega | refine And.intro ?_ ?_ | fail)); done)); done))))
          | (refine AWL.guard2 rfl rfl rfl rfl rfl rfl ?_ ?_ <;> (intro hc; (try simp only [Bool.not_true, Bool.not_false] at hc); first | (cases hc; done) | ((try simp only [hc]); (try simp only [beq_iff_eq, bne_iff_ne, decide_eq_true_eq, decide_eq_false_iff_not, beq_eq_false_iff_ne, bne_eq_false_iff_eq, ne_eq, Bool.not_eq_true, Bool.not_eq_false, Bool.not_eq_eq_eq_not, Bool.not_true, Bool.not_false, Decidable.not_not, Int.not_lt, Int.not_le] at hc); (try (exfalso; omega)); (try (guard_hyp hc : True; clear hc)))))
          | (refine AWL.guard2 rfl rfl rfl rfl rfl rfl (fun hc => ?_) ?_; (cases hc; done))
          | (refine AW.drawn false hmix ?_ ?_; (focus kernel_rfl))
          | (refine AWL.guardU rfl rfl rfl rfl rfl rfl ?_; (try simp (disch := omega) only [NS, ints_nums, ints_nil, ints_cons, eqL_nil, eqL_cons, eqS_int, eqS_bool, eqS_str, Nat.reduceBEq, Nat.reduceAdd, Nat.reduceMul, Int.reduceToNat, Nat.reduceSub, TY, slx, FA, FB, FC, e0, b3]))
          | (refine DQ.guardU rfl rfl rfl rfl rfl rfl rfl ?_; (try simp (disch := omega) only [NS, ints_nums, ints_nil, ints_cons, eqL_nil, eqL_cons, eqS_int, eqS_bool, eqS_str, Nat.reduceBEq, Nat.reduceAdd, Nat.reduceMul, Int.reduceToNat, Nat.reduceSub, TY, slx, FA, FB, FC, e0, b3]))
          | refine DQ.tail rfl ?_
          | (refine DQ.guard2 rfl rfl rfl rfl rfl rfl rfl ?_ ?_ <;> (intro hc; (try simp only [Bool.not_true, Bool.not_false] at hc); first | (cases hc; done) | ((try simp only [hc]); (try simp only [beq_iff_eq, bne_iff_ne, decide_eq_true_eq, decide_eq_false_iff_not, beq_eq_false_iff_ne, bne_eq_false_iff_eq, ne_eq, Bool.not_eq_true, Bool.not_eq_false, Bool.not_eq_eq_eq_not, Bool.not_true, Bool.not_false, Decidable.not_not, Int.not_lt, Int.not_le] at hc); (try (exfalso; omega)); (try (guard_hyp hc : True; clear hc)))))
          | (refine AW.cond rfl (fun hc => ?_) (fun hc => ?_) <;> first | (cases hc; done) | ((try simp only [beq_iff_eq, bne_iff_ne, decide_eq_true_eq, decide_eq_false_iff_not, beq_eq_false_iff_ne, bne_eq_false_iff_eq, ne_eq, Bool.not_eq_true, Bool.not_eq_false, Bool.not_eq_eq_eq_not, Bool.not_true, Bool.not_false, Decidable.not_not, Int.not_lt, Int.not_le] at hc); (try (exfalso; omega)); (try (guard_hyp hc : True; clear hc))))
          | (refine EndQ.mk rfl rfl rfl ?_ ?_ ?_; (focus (first | exact Or.inl rfl | exact Or.inr rfl)); (focus ((first | exact trivial | omega | (refine And.intro (by kernel_rfl) (And.intro ⟨_, (by first | exact nums_ints _ _ | rfl), (by first | exact nums_ints _ _ | rfl)⟩ (And.intro ?_ ?_)) <;> (first | rfl | assumption | (simp only [nums_length]; omega) | omega)) | (refine And.intro ?_ (And.intro ?_ ?_); (focus kernel_rfl); (focus kernel_rfl); (focus kernel_rfl)) | exact ld_nums i3 _ _ (by first | assumption | omega | (simp only [List.length_append]; omega)) | exact ld_nums i5 _ _ (by first | assumption | omega | (simp only [List.length_append]; omega)) | exact ld_nums i24 _ _ (by first | assumption | omega | (simp only [List.length_append]; omega)) | (show _ ≤ _; omega) | (simp only [List.length_take, List.length_drop, List.length_append, List.length_cons, List.length_nil]; omega) | ((repeat' (first | exact trivial | exact rfl | exact Nat.le_of_ble_eq_true rfl | refine And.intro ?_ ?_ | fail)); done) | ((try simp (disch := omega) only [NS, ints_nums, ints_nil, ints_cons, eqL_nil, eqL_cons, eqS_int, eqS_bool, eqS_str, Nat.reduceBEq, Nat.reduceAdd, Nat.reduceMul, Int.reduceToNat, Nat.reduceSub, TY, slx, FA, FB, FC, e0, b3]); (repeat' (first | exact trivial | exact rfl | exact ⟨_, _, rfl⟩ | exact ⟨_, rfl⟩ | exact Nat.le_of_ble_eq_true rfl | exact Nat.zero_lt_succ _ | omega | refine And.intro ?_ ?_ | fail)); done)); done)); (try simp (disch := omega) only [NS, ints_nums, ints_nil, ints_cons, eqL_nil, eqL_cons, eqS_int, eqS_bool, eqS_str, Nat.reduceBEq, Nat.reduceAdd, Nat.reduceMul, Int.reduceToNat, Nat.reduceSub, TY, slx, FA, FB, FC, e0, b3]))
          | fail)
        all_goals try simp (disch := omega) only [NS, ints_nums, ints_nil, ints_cons, eqL_nil, eqL_cons, eqS_int, eqS_bool, eqS_str, Nat.reduceBEq, Nat.reduceAdd, Nat.reduceMul, Int.reduceToNat, Nat.reduceSub, TY, slx, FA, FB, FC, e0, b3, e5]
        all_goals first
          | exact ⟨10 - (s + 1), by omega, s + 1, rfl, by (apply Classical.byContradiction; intro h9; obtain rfl : s = 9 := (by omega); exact hr (range9 hN)), rfl, fun t ht => by (by_cases h : t < s; exact hno t h; obtain rfl : t = s := (by omega); exact hr)⟩
          | (exfalso; omega) | trace_state
    | true =>
      obtain ⟨z, b1, b2⟩ := back_s hN hs
      rw [b1] at hSc
      by_cases hr : rangeF true s N
      · have b3 := b2.2 hr
        have b4 := putF_is hN hr hno
        rw [b4] at hUc hSc e0
        rw [← b4, hl, b4]
        repeat' (first
          | refine AW.seq ?_
          | refine AW.block ?_
          | refine AW.region ?_
          | (refine AW.skip ?_; (try simp only [thenQ, blockQ, ↓reduceIte, Nat.reduceEqDiff]))
          | (refine AW.ret ?_; (try simp only [thenQ, blockQ, ↓reduceIte, Nat.reduceEqDiff]))
          | (refine AW.exit ?_; (try simp only [thenQ, blockQ, ↓reduceIte, Nat.reduceEqDiff]))
          | (refine AWL.nil ?_; (try simp only [thenQ, blockQ, ↓reduceIte, Nat.reduceEqDiff]))
          | (refine DQ.nil ?_; (try simp only [thenQ, blockQ, ↓reduceIte, Nat.reduceEqDiff]))
          | ((first
            | (refine AWL.op (sl := SL) rfl rfl ?_ ?_)
            | (refine DQ.op rfl rfl rfl rfl rfl ?_ ?_)
            | (refine DQ.yes rfl ?_ ?_)
            | (refine DQ.step rfl rfl rfl rfl (QStep.assign rfl) ?_)
            | (refine AWL.frzA rfl rfl ?_)
            | (refine AWL.callV (f := 12) rfl rfl rfl rfl ?_ (Nat.le_of_ble_eq_true rfl) rfl (hUc) ?_; (focus kernel_rfl))
            | (refine AWL.call (f := 12) rfl rfl rfl ?_ rfl (Nat.le_of_ble_eq_true rfl) rfl (hUc) ?_; (focus kernel_rfl))
            | (refine CWr.call (f := 12) rfl ?_ rfl (hUc) (fun _ _ h => h) ?_ ?_ ?_; (focus kernel_rfl))
            | (refine DQ.step rfl rfl rfl rfl (QStep.call (f := 12) rfl ?_ rfl (hUc) (fun _ _ h => h) (fun _ => rfl)) ?_; (focus kernel_rfl))
            | (refine DQ.yesC (QStep.call (f := 12) rfl ?_ rfl (hUc) (fun _ _ h => h) (fun _ => rfl)) ?_; (focus kernel_rfl))
            | (refine AWL.callV (f := 14) rfl rfl rfl rfl ?_ (Nat.le_of_ble_eq_true rfl) rfl (hSc) ?_; (focus kernel_rfl))
            | (refine AWL.call (f := 14) rfl rfl rfl ?_ rfl (Nat.le_of_ble_eq_true rfl) rfl (hSc) ?_; (focus kernel_rfl))
            | (refine CWr.call (f := 14) rfl ?_ rfl (hSc) (fun _ _ h => h) ?_ ?_ ?_; (focus kernel_rfl))
            | (refine DQ.step rfl rfl rfl rfl (QStep.call (f := 14) rfl ?_ rfl (hSc) (fun _ _ h => h) (fun _ => rfl)) ?_; (focus kernel_rfl))
            | (refine DQ.yesC (QStep.call (f := 14) rfl ?_ rfl (hSc) (fun _ _ h => h) (fun _ => rfl)) ?_; (focus kernel_rfl))
            | fail) <;> (first | ((first | show AWL _ _ _ _ _ | show DQ _ _ _ _ _ _ | show AW _ _ _ _ | (rintro _ _ ⟨rfl, rfl⟩; (try refine And.intro rfl ?_))); (try simp (disch := omega) only [NS, ints_nums, ints_nil, ints_cons, eqL_nil, eqL_cons, eqS_int, eqS_bool, eqS_str, Nat.reduceBEq, Nat.reduceAdd, Nat.reduceMul, Int.reduceToNat, Nat.reduceSub, TY, slx, FA, FB, FC, e0, b3, b4, beq_self_eq_true, decide_true])) | (focus ((first | exact trivial | omega | (refine And.intro (by kernel_rfl) (And.intro ⟨_, (by first | exact nums_ints _ _ | rfl), (by first | exact nums_ints _ _ | rfl)⟩ (And.intro ?_ ?_)) <;> (first | rfl | assumption | (simp only [nums_length]; omega) | omega)) | (refine And.intro ?_ (And.intro ?_ ?_); (focus kernel_rfl); (focus kernel_rfl); (focus kernel_rfl)) | exact ld_nums i3 _ _ (by first | assumption | omega | (simp only [List.length_append]; omega)) | exact ld_nums i5 _ _ (by first | assumption | omega | (simp only [List.length_append]; omega)) | exact ld_nums i24 _ _ (by first | assumption | omega | (simp only [List.length_append]; omega)) | (show _ ≤ _; omega) | (simp only [List.length_take, List.length_drop, List.length_append, List.length_cons, List.length_nil]; omega) | ((repeat' (first | exact trivial | exact rfl | exact Nat.le_of_ble_eq_true rfl | refine And.intro ?_ ?_ | fail)); done) | ((try simp (disch := omega) only [NS, ints_nums, ints_nil, ints_cons, eqL_nil, eqL_cons, eqS_int, eqS_bool, eqS_str, Nat.reduceBEq, Nat.reduceAdd, Nat.reduceMul, Int.reduceToNat, Nat.reduceSub, TY, slx, FA, FB, FC, e0, b3, b4, beq_self_eq_true, decide_true]); (repeat' (first | exact trivial | exact rfl | exact ⟨_, _, rfl⟩ | exact ⟨_, rfl⟩ | exact Nat.le_of_ble_eq_true rfl | exact Nat.zero_lt_succ _ | omega | refine And.intro ?_ ?_ | fail)); done)); done))))
          | (refine AWL.guard2 rfl rfl rfl rfl rfl rfl ?_ ?_ <;> (intro hc; (try simp only [Bool.not_true, Bool.not_false] at hc); first | (cases hc; done) | ((try simp only [hc]); (try simp only [beq_iff_eq, bne_iff_ne, decide_eq_true_eq, decide_eq_false_iff_not, beq_eq_false_iff_ne, bne_eq_false_iff_eq, ne_eq, Bool.not_eq_true, Bool.not_eq_false, Bool.not_eq_eq_eq_not, Bool.not_true, Bool.not_false, Decidable.not_not, Int.not_lt, Int.not_le] at hc); (try (exfalso; omega)); (try (guard_hyp hc : True; clear hc)))))
          | (refine AWL.guard2 rfl rfl rfl rfl rfl rfl (fun hc => ?_) ?_; (cases hc; done))
          | (refine AW.drawn false hmix ?_ ?_; (focus kernel_rfl))
          | (refine AWL.guardU rfl rfl rfl rfl rfl rfl ?_; (try simp (disch := omega) only [NS, ints_nums, ints_nil, ints_cons, eqL_nil, eqL_cons, eqS_int, eqS_bool, eqS_str, Nat.reduceBEq, Nat.reduceAdd, Nat.reduceMul, Int.reduceToNat, Nat.reduceSub, TY, slx, FA, FB, FC, e0, b3, b4, beq_self_eq_true, decide_true]))
          | (refine DQ.guardU rfl rfl rfl rfl rfl rfl rfl ?_; (try simp (disch := omega) only [NS, ints_nums, ints_nil, ints_cons, eqL_nil, eqL_cons, eqS_int, eqS_bool, eqS_str, Nat.reduceBEq, Nat.reduceAdd, Nat.reduceMul, Int.reduceToNat, Nat.reduceSub, TY, slx, FA, FB, FC, e0, b3, b4, beq_self_eq_true, decide_true]))
          | refine DQ.tail rfl ?_
          | (refine DQ.guard2 rfl rfl rfl rfl rfl rfl rfl ?_ ?_ <;> (intro hc; (try simp only [Bool.not_true, Bool.not_false] at hc); first | (cases hc; done) | ((try simp only [hc]); (try simp only [beq_iff_eq, bne_iff_ne, decide_eq_true_eq, decide_eq_false_iff_not, beq_eq_false_iff_ne, bne_eq_false_iff_eq, ne_eq, Bool.not_eq_true, Bool.not_eq_false, Bool.not_eq_eq_eq_not, Bool.not_true, Bool.not_false, Decidable.not_not, Int.not_lt, Int.not_le] at hc); (try (exfalso; omega)); (try (guard_hyp hc : True; clear hc)))))
          | (refine AW.cond rfl (fun hc => ?_) (fun hc => ?_) <;> first | (cases hc; done) | ((try simp only [beq_iff_eq, bne_iff_ne, decide_eq_true_eq, decide_eq_false_iff_not, beq_eq_false_iff_ne, bne_eq_false_iff_eq, ne_eq, Bool.not_eq_true, Bool.not_eq_false, Bool.not_eq_eq_eq_not, Bool.not_true, Bool.not_false, Decidable.not_not, Int.not_lt, Int.not_le] at hc); (try (exfalso; omega)); (try (guard_hyp hc : True; clear hc))))
          | (refine EndQ.mk rfl rfl rfl ?_ ?_ ?_; (focus (first | exact Or.inl rfl | exact Or.inr rfl)); (focus ((first | exact trivial | omega | (refine And.intro (by kernel_rfl) (And.intro ⟨_, (by first | exact nums_ints _ _ | rfl), (by first | exact nums_ints _ _ | rfl)⟩ (And.intro ?_ ?_)) <;> (first | rfl | assumption | (simp only [nums_length]; omega) | omega)) | (refine And.intro ?_ (And.intro ?_ ?_); (focus kernel_rfl); (focus kernel_rfl); (focus kernel_rfl)) | exact ld_nums i3 _ _ (by first | assumption | omega | (simp only [List.length_append]; omega)) | exact ld_nums i5 _ _ (by first | assumption | omega | (simp only [List.length_append]; omega)) | exact ld_nums i24 _ _ (by first | assumption | omega | (simp only [List.length_append]; omega)) | (show _ ≤ _; omega) | (simp only [List.length_take, List.length_drop, List.length_append, List.length_cons, List.length_nil]; omega) | ((repeat' (first | exact trivial | exact rfl | exact Nat.le_of_ble_eq_true rfl | refine And.intro ?_ ?_ | fail)); done) | ((try simp (disch := omega) only [NS, ints_nums, ints_nil, ints_cons, eqL_nil, eqL_cons, eqS_int, eqS_bool, eqS_str, Nat.reduceBEq, Nat.reduceAdd, Nat.reduceMul, Int.reduceToNat, Nat.reduceSub, TY, slx, FA, FB, FC, e0, b3, b4, beq_self_eq_true, decide_true]); (repeat' (first | exact trivial | exact rfl | exact ⟨_, _, rfl⟩ | exact ⟨_, rfl⟩ | exact Nat.le_of_ble_eq_true rfl | exact Nat.zero_lt_succ _ | omega | refine And.intro ?_ ?_ | fail)); done)); done)); (try simp (disch := omega) only [NS, ints_nums, ints_nil, ints_cons, eqL_nil, eqL_cons, eqS_int, eqS_bool, eqS_str, Nat.reduceBEq, Nat.reduceAdd, Nat.reduceMul, Int.reduceToNat, Nat.reduceSub, TY, slx, FA, FB, FC, e0, b3, b4, beq_self_eq_true, decide_true]))
          | fail)
        all_goals first | exact ⟨trivial, trivial⟩ | exact ⟨rfl, trivial⟩ | exact ⟨rfl, rfl⟩ | exact ⟨trivial, rfl⟩ | (exfalso; omega) | trace_state
      · have b3 : (IntKind.u64.wrap z == N % 2 ^ 64) = false := by
          rw [beq_eq_false_iff_ne]; exact fun e => hr (b2.1 e)
        repeat' (first
          | refine AW.seq ?_
          | refine AW.block ?_
          | refine AW.region ?_
          | (refine AW.skip ?_; (try simp only [thenQ, blockQ, ↓reduceIte, Nat.reduceEqDiff]))
          | (refine AW.ret ?_; (try simp only [thenQ, blockQ, ↓reduceIte, Nat.reduceEqDiff]))
          | (refine AW.exit ?_; (try simp only [thenQ, blockQ, ↓reduceIte, Nat.reduceEqDiff]))
          | (refine AWL.nil ?_; (try simp only [thenQ, blockQ, ↓reduceIte, Nat.reduceEqDiff]))
          | (refine DQ.nil ?_; (try simp only [thenQ, blockQ, ↓reduceIte, Nat.reduceEqDiff]))
          | ((first
            | (refine AWL.op (sl := SL) rfl rfl ?_ ?_)
            | (refine DQ.op rfl rfl rfl rfl rfl ?_ ?_)
            | (refine DQ.yes rfl ?_ ?_)
            | (refine DQ.step rfl rfl rfl rfl (QStep.assign rfl) ?_)
            | (refine AWL.frzA rfl rfl ?_)
            | (refine AWL.callV (f := 12) rfl rfl rfl rfl ?_ (Nat.le_of_ble_eq_true rfl) rfl (hUc) ?_; (focus kernel_rfl))
            | (refine AWL.call (f := 12) rfl rfl rfl ?_ rfl (Nat.le_of_ble_eq_true rfl) rfl (hUc) ?_; (focus kernel_rfl))
            | (refine CWr.call (f := 12) rfl ?_ rfl (hUc) (fun _ _ h => h) ?_ ?_ ?_; (focus kernel_rfl))
            | (refine DQ.step rfl rfl rfl rfl (QStep.call (f := 12) rfl ?_ rfl (hUc) (fun _ _ h => h) (fun _ => rfl)) ?_; (focus kernel_rfl))
            | (refine DQ.yesC (QStep.call (f := 12) rfl ?_ rfl (hUc) (fun _ _ h => h) (fun _ => rfl)) ?_; (focus kernel_rfl))
            | (refine AWL.callV (f := 14) rfl rfl rfl rfl ?_ (Nat.le_of_ble_eq_true rfl) rfl (hSc) ?_; (focus kernel_rfl))
            | (refine AWL.call (f := 14) rfl rfl rfl ?_ rfl (Nat.le_of_ble_eq_true rfl) rfl (hSc) ?_; (focus kernel_rfl))
            | (refine CWr.call (f := 14) rfl ?_ rfl (hSc) (fun _ _ h => h) ?_ ?_ ?_; (focus kernel_rfl))
            | (refine DQ.step rfl rfl rfl rfl (QStep.call (f := 14) rfl ?_ rfl (hSc) (fun _ _ h => h) (fun _ => rfl)) ?_; (focus kernel_rfl))
            | (refine DQ.yesC (QStep.call (f := 14) rfl ?_ rfl (hSc) (fun _ _ h => h) (fun _ => rfl)) ?_; (focus kernel_rfl))
            | fail) <;> (first | ((first | show AWL _ _ _ _ _ | show DQ _ _ _ _ _ _ | show AW _ _ _ _ | (rintro _ _ ⟨rfl, rfl⟩; (try refine And.intro rfl ?_))); (try simp (disch := omega) only [NS, ints_nums, ints_nil, ints_cons, eqL_nil, eqL_cons, eqS_int, eqS_bool, eqS_str, Nat.reduceBEq, Nat.reduceAdd, Nat.reduceMul, Int.reduceToNat, Nat.reduceSub, TY, slx, FA, FB, FC, e0, b3])) | (focus ((first | exact trivial | omega | (refine And.intro (by kernel_rfl) (And.intro ⟨_, (by first | exact nums_ints _ _ | rfl), (by first | exact nums_ints _ _ | rfl)⟩ (And.intro ?_ ?_)) <;> (first | rfl | assumption | (simp only [nums_length]; omega) | omega)) | (refine And.intro ?_ (And.intro ?_ ?_); (focus kernel_rfl); (focus kernel_rfl); (focus kernel_rfl)) | exact ld_nums i3 _ _ (by first | assumption | omega | (simp only [List.length_append]; omega)) | exact ld_nums i5 _ _ (by first | assumption | omega | (simp only [List.length_append]; omega)) | exact ld_nums i24 _ _ (by first | assumption | omega | (simp only [List.length_append]; omega)) | (show _ ≤ _; omega) | (simp only [List.length_take, List.length_drop, List.length_append, List.length_cons, List.length_nil]; omega) | ((repeat' (first | exact trivial | exact rfl | exact Nat.le_of_ble_eq_true rfl | refine And.intro ?_ ?_ | fail)); done) | ((try simp (disch := omega) only [NS, ints_nums, ints_nil, ints_cons, eqL_nil, eqL_cons, eqS_int, eqS_bool, eqS_str, Nat.reduceBEq, Nat.reduceAdd, Nat.reduceMul, Int.reduceToNat, Nat.reduceSub, TY, slx, FA, FB, FC, e0, b3]); (repeat' (first | exact trivial | exact rfl | exact ⟨_, _, rfl⟩ | exact ⟨_, rfl⟩ | exact Nat.le_of_ble_eq_true rfl | exact Nat.zero_lt_succ _ | omega | refine And.intro ?_ ?_ | fail)); done)); done))))
          | (refine AWL.guard2 rfl rfl rfl rfl rfl rfl ?_ ?_ <;> (intro hc; (try simp only [Bool.not_true, Bool.not_false] at hc); first | (cases hc; done) | ((try simp only [hc]); (try simp only [beq_iff_eq, bne_iff_ne, decide_eq_true_eq, decide_eq_false_iff_not, beq_eq_false_iff_ne, bne_eq_false_iff_eq, ne_eq, Bool.not_eq_true, Bool.not_eq_false, Bool.not_eq_eq_eq_not, Bool.not_true, Bool.not_false, Decidable.not_not, Int.not_lt, Int.not_le] at hc); (try (exfalso; omega)); (try (guard_hyp hc : True; clear hc)))))
          | (refine AWL.guard2 rfl rfl rfl rfl rfl rfl (fun hc => ?_) ?_; (cases hc; done))
          | (refine AW.drawn false hmix ?_ ?_; (focus kernel_rfl))
          | (refine AWL.guardU rfl rfl rfl rfl rfl rfl ?_; (try simp (disch := omega) only [NS, ints_nums, ints_nil, ints_cons, eqL_nil, eqL_cons, eqS_int, eqS_bool, eqS_str, Nat.reduceBEq, Nat.reduceAdd, Nat.reduceMul, Int.reduceToNat, Nat.reduceSub, TY, slx, FA, FB, FC, e0, b3]))
          | (refine DQ.guardU rfl rfl rfl rfl rfl rfl rfl ?_; (try simp (disch := omega) only [NS, ints_nums, ints_nil, ints_cons, eqL_nil, eqL_cons, eqS_int, eqS_bool, eqS_str, Nat.reduceBEq, Nat.reduceAdd, Nat.reduceMul, Int.reduceToNat, Nat.reduceSub, TY, slx, FA, FB, FC, e0, b3]))
          | refine DQ.tail rfl ?_
          | (refine DQ.guard2 rfl rfl rfl rfl rfl rfl rfl ?_ ?_ <;> (intro hc; (try simp only [Bool.not_true, Bool.not_false] at hc); first | (cases hc; done) | ((try simp only [hc]); (try simp only [beq_iff_eq, bne_iff_ne, decide_eq_true_eq, decide_eq_false_iff_not, beq_eq_false_iff_ne, bne_eq_false_iff_eq, ne_eq, Bool.not_eq_true, Bool.not_eq_false, Bool.not_eq_eq_eq_not, Bool.not_true, Bool.not_false, Decidable.not_not, Int.not_lt, Int.not_le] at hc); (try (exfalso; omega)); (try (guard_hyp hc : True; clear hc)))))
          | (refine AW.cond rfl (fun hc => ?_) (fun hc => ?_) <;> first | (cases hc; done) | ((try simp only [beq_iff_eq, bne_iff_ne, decide_eq_true_eq, decide_eq_false_iff_not, beq_eq_false_iff_ne, bne_eq_false_iff_eq, ne_eq, Bool.not_eq_true, Bool.not_eq_false, Bool.not_eq_eq_eq_not, Bool.not_true, Bool.not_false, Decidable.not_not, Int.not_lt, Int.not_le] at hc); (try (exfalso; omega)); (try (guard_hyp hc : True; clear hc))))
          | (refine EndQ.mk rfl rfl rfl ?_ ?_ ?_; (focus (first | exact Or.inl rfl | exact Or.inr rfl)); (focus ((first | exact trivial | omega | (refine And.intro (by kernel_rfl) (And.intro ⟨_, (by first | exact nums_ints _ _ | rfl), (by first | exact nums_ints _ _ | rfl)⟩ (And.intro ?_ ?_)) <;> (first | rfl | assumption | (simp only [nums_length]; omega) | omega)) | (refine And.intro ?_ (And.intro ?_ ?_); (focus kernel_rfl); (focus kernel_rfl); (focus kernel_rfl)) | exact ld_nums i3 _ _ (by first | assumption | omega | (simp only [List.length_append]; omega)) | exact ld_nums i5 _ _ (by first | assumption | omega | (simp only [List.length_append]; omega)) | exact ld_nums i24 _ _ (by first | assumption | omega | (simp only [List.length_append]; omega)) | (show _ ≤ _; omega) | (simp only [List.length_take, List.length_drop, List.length_append, List.length_cons, List.length_nil]; omega) | ((repeat' (first | exact trivial | exact rfl | exact Nat.le_of_ble_eq_true rfl | refine And.intro ?_ ?_ | fail)); done) | ((try simp (disch := omega) only [NS, ints_nums, ints_nil, ints_cons, eqL_nil, eqL_cons, eqS_int, eqS_bool, eqS_str, Nat.reduceBEq, Nat.reduceAdd, Nat.reduceMul, Int.reduceToNat, Nat.reduceSub, TY, slx, FA, FB, FC, e0, b3]); (repeat' (first | exact trivial | exact rfl | exact ⟨_, _, rfl⟩ | exact ⟨_, rfl⟩ | exact Nat.le_of_ble_eq_true rfl | exact Nat.zero_lt_succ _ | omega | refine And.intro ?_ ?_ | fail)); done)); done)); (try simp (disch := omega) only [NS, ints_nums, ints_nil, ints_cons, eqL_nil, eqL_cons, eqS_int, eqS_bool, eqS_str, Nat.reduceBEq, Nat.reduceAdd, Nat.reduceMul, Int.reduceToNat, Nat.reduceSub, TY, slx, FA, FB, FC, e0, b3]))
          | fail)
        all_goals try simp (disch := omega) only [NS, ints_nums, ints_nil, ints_cons, eqL_nil, eqL_cons, eqS_int, eqS_bool, eqS_str, Nat.reduceBEq, Nat.reduceAdd, Nat.reduceMul, Int.reduceToNat, Nat.reduceSub, TY, slx, FA, FB, FC, e0, b3, e5]
        all_goals first
          | exact ⟨10 - (s + 1), by omega, s + 1, rfl, by (apply Classical.byContradiction; intro h9; obtain rfl : s = 9 := (by omega); exact hr (range9 hN)), rfl, fun t ht => by (by_cases h : t < s; exact hno t h; obtain rfl : t = s := (by omega); exact hr)⟩
          | (exfalso; omega) | trace_state
end Go.Proofs.Yticidhkilfkgbaa
