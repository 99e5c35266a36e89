/- number. -/
import Derived.Test.YtmoalocogccnbaaV5
import Derived.Test.YtmoalocogccnbaaPre
namespace Go.Proofs.Ytmoalocogccnbaa
set_option linter.unusedSimpArgs false
set_option linter.unusedVariables false
open Go Go.Abs
attribute [local irreducible] AW AWL AC FW CW CWr IntKind.wrap

def dig (c : UInt8) : Int := if (c.toNat : Int) ≥ 97 then (c.toNat : Int) - 97 + 10 else ((c.toNat : Int) - 48) % 256
theorem dig_bound (c : UInt8) : 0 ≤ dig c ∧ dig c ≤ 255 := by
  have := c.toNat_lt
  unfold dig; split <;> omega
def numT (b : Int) (s : List UInt8) : Nat → Int
  | 0 => 0
  | i + 1 => numT b s i * b + dig (s.getD i 0)
def numR (b : Int) (s : List UInt8) : Int := numT b s s.length
theorem numT_bound {b : Int} (hb : b = 10 ∨ b = 16) (s : List UInt8) (i : Nat) (hi : i ≤ 6) : 0 ≤ numT b s i ∧ numT b s i ≤ 10000000000 := by
  have h0 : ∀ i, 0 ≤ numT b s i ∧ numT b s i ≤ 17 * 16 ^ i - 17 := by
    intro i
    induction i with
    | zero => exact ⟨Int.le_refl _, by rw [numT]; decide⟩
    | succ i ih =>
      have hd := dig_bound (s.getD i 0)
      have hp : (1 : Int) ≤ 16 ^ i := by have : (0 : Int) < 16 ^ i := Int.pow_pos (by decide); omega
      rw [numT, Int.pow_succ]
      rcases hb with rfl | rfl <;> constructor <;> omega
  have := h0 i
  have hp : (16 : Int) ^ i ≤ 16 ^ 6 := by exact_mod_cast Nat.pow_le_pow_right (by decide) hi
  simp only [Int.reducePow] at hp; omega
def N6 (s : List UInt8) (b x i : Int) : St := { n := 35, slots := [(0, .str s), (1, .int .i64 b), (4, .int .i64 0), (5, .int .i64 x), (6, .int .i64 i)], mem := [] }
set_option maxHeartbeats 3200000 in
theorem number_ok (s : List UInt8) (b : Int) (hs : s.length ≤ 5) (hb : b = 10 ∨ b = 16) : AC Try.prog 21 [.str s, .int .i64 b] (fun r m => r = .int .i64 (numR b s) ∧ m = []) := by
  refine AC.enter Try.func21 rfl (Nat.le_of_ble_eq_true rfl) ?_
  simp only [Try.f21]
  have hchk : True := by simp only [TY, List.set_cons_zero, List.set_cons_succ, sl27, sl25, sl36, sl3, sl4, sl5, sl9, nums_length, byts_V, byts_len, N6]
  repeat' (first
    | (refine AWL.opN (sl := SL) rfl rfl rfl trivial ?_; (try (conv => arg -1; simp (disch := omega) only [NSX, Nat.reduceBEq, Nat.reduceAdd, Nat.reduceMul, Int.reduceToNat, Nat.reduceSub, TY, List.set_cons_zero, List.set_cons_succ, sl27, sl25, sl36, sl3, sl4, sl5, sl9, nums_length, byts_V, byts_len, N6])))
    | (refine AW.seqQ ?_; intro Qn hQn)
    | (refine AW.blockQ ?_; intro Qn hQn)
    | refine AW.region ?_
    | ((first | refine AW.skip ?_ | refine AW.ret ?_ | refine AW.exit ?_ | refine AWL.nil ?_ | refine CW.nil ?_); (repeat (first | refine QEq.mp (by assumption) ?_ | simp only [thenQ, Go.Abs.blockQ, ↓reduceIte, Nat.reduceEqDiff])))
    | refine FW.nil ?_
    | refine FW.pass rfl rfl ?_
    | refine FW.go rfl ?_
    | refine CW.skip rfl rfl ?_
    | refine CW.step rfl rfl rfl rfl rfl ?_
    | ((first
      | (refine AWL.boxF (t := 36) rfl rfl rfl rfl rfl ?_)
      | (refine AWL.allocF (t := 36) rfl rfl rfl rfl rfl rfl ?_)
      | (refine CWr.allocF (t := 36) rfl rfl rfl ?_ ?_)
      | (refine AWL.op (sl := SL) rfl rfl ?_ ?_)
      | (refine FW.float rfl rfl rfl rfl rfl ?_)
      | (refine CWr.op rfl ?_ ?_ ?_)
      | (refine CWr.assign rfl ?_ ?_)
      | (refine CWr.alloc rfl rfl rfl rfl ?_)
      | (refine CWr.build rfl rfl rfl rfl ?_ rfl rfl rfl ?_)
      | fail) <;> (try ((first | show AWL _ _ _ _ _ | show AW _ _ _ _ | show FW _ _ _ _ _ _ _ _ _ _ | show CW _ _ _ _ _ _ _ _ _ _ _ _ | (rintro _ _ ⟨rfl, rfl⟩; (try refine And.intro rfl ?_))); (try (conv => arg -1; simp (disch := omega) only [NSX, Nat.reduceBEq, Nat.reduceAdd, Nat.reduceMul, Int.reduceToNat, Nat.reduceSub, TY, List.set_cons_zero, List.set_cons_succ, sl27, sl25, sl36, sl3, sl4, sl5, sl9, nums_length, byts_V, byts_len, N6])))))
    | ((first | refine AWL.guard2 rfl rfl rfl rfl rfl rfl ?_ ?_ | refine CW.guard2 rfl rfl rfl rfl rfl rfl rfl rfl ?_ ?_) <;> (intro hc; (try simp only [Bool.not_true, Bool.not_false] at hc); first | (cases hc; done) | ((try simp only [hc]); (try simp only [beq_iff_eq, bne_iff_ne, decide_eq_true_eq, decide_eq_false_iff_not, beq_eq_false_iff_ne, bne_eq_false_iff_eq, ne_eq, Bool.not_eq_true, Bool.not_eq_false, Bool.not_eq_eq_eq_not, Bool.not_true, Bool.not_false, Decidable.not_not, Int.not_lt, Int.not_le] at hc); (try (exfalso; omega)); (try (guard_hyp hc : True; clear hc)))) <;> (try (first | (with_reducible show AWL _ _ _ _ (St.put _ _ _)) | (with_reducible show CW _ _ _ _ _ _ _ _ _ _ _ (St.put _ _ _))); (try (conv => arg -1; simp (disch := omega) only [NSX, Nat.reduceBEq, Nat.reduceAdd, Nat.reduceMul, Int.reduceToNat, Nat.reduceSub, TY, List.set_cons_zero, List.set_cons_succ, sl27, sl25, sl36, sl3, sl4, sl5, sl9, nums_length, byts_V, byts_len, N6]))))
    | (refine AWL.guard2 rfl rfl rfl rfl rfl rfl (fun hc => ?_) ?_; (cases hc; done))
    | ((first | ((show AW _ (.region _ _ true) _ _); refine AW.calm false [] [] hmix (by (repeat' (first | exact panOk_end | exact panOk_endM | refine panOk_then ?_ | refine panOk_block ?_ | refine QEq.pan (by assumption) ?_))) ?_ rfl ?_; (focus (as_aux_lemma => kernel_rfl))) | refine AWL.guardU rfl rfl rfl rfl rfl rfl ?_ | refine CW.guardU rfl rfl rfl rfl rfl rfl rfl rfl ?_); (try (conv => arg -1; simp (disch := omega) only [NSX, Nat.reduceBEq, Nat.reduceAdd, Nat.reduceMul, Int.reduceToNat, Nat.reduceSub, TY, List.set_cons_zero, List.set_cons_succ, sl27, sl25, sl36, sl3, sl4, sl5, sl9, nums_length, byts_V, byts_len, N6])))
    | refine CW.tail rfl ?_
    | (refine AW.cond rfl (fun hc => ?_) (fun hc => ?_) <;> first | (cases hc; done) | ((try simp only [beq_iff_eq, bne_iff_ne, decide_eq_true_eq, decide_eq_false_iff_not, beq_eq_false_iff_ne, bne_eq_false_iff_eq, ne_eq, Bool.not_eq_true, Bool.not_eq_false, Bool.not_eq_eq_eq_not, Bool.not_true, Bool.not_false, Decidable.not_not, Int.not_lt, Int.not_le] at hc); (try (exfalso; omega)); (try (guard_hyp hc : True; clear hc))))
    | ((refine EndQ.mk rfl rfl rfl ?_ ?_ ?_; (focus (first | exact Or.inl rfl | exact Or.inr rfl))) <;> (try simp (disch := omega) only [NSX, Nat.reduceBEq, Nat.reduceAdd, Nat.reduceMul, Int.reduceToNat, Nat.reduceSub, TY, List.set_cons_zero, List.set_cons_succ, sl27, sl25, sl36, sl3, sl4, sl5, sl9, nums_length, byts_V, byts_len, N6]))
    | (focus ((first | exact trivial | omega | (refine And.intro (by kernel_rfl) (And.intro ⟨_, (by first | exact nums_ints _ _ | rfl), (by first | exact nums_ints _ _ | rfl)⟩ (And.intro ?_ ?_)) <;> (first | rfl | assumption | (simp only [nums_length]; omega) | omega)) | (refine And.intro ?_ (And.intro ?_ ?_); (focus kernel_rfl); (focus kernel_rfl); (focus kernel_rfl)) | ((show newKs _ _ _ = true); kernel_rfl) | ((show FitV _ _ _ _ _ _); (repeat' (first | exact trivial | exact Or.inr (Or.inl rfl) | exact Or.inl rfl | exact Or.inr (Or.inr rfl) | refine And.intro ?_ ?_)); done) | assumption | ((first | refine ld_nums i3 _ _ ?_ | refine ld_nums i5 _ _ ?_ | refine at_nums i3 _ _ ?_ | refine at_nums i5 _ _ ?_); first | assumption | omega | (simp only [List.length_append]; omega)) | (show _ ≤ _; omega) | (simp only [List.length_take, List.length_drop, List.length_append, List.length_cons, List.length_nil]; omega) | ((repeat' (first | exact trivial | exact rfl | exact Nat.le_of_ble_eq_true rfl | refine And.intro ?_ ?_ | fail)); done) | ((try simp (disch := omega) only [NSX, Nat.reduceBEq, Nat.reduceAdd, Nat.reduceMul, Int.reduceToNat, Nat.reduceSub, TY, List.set_cons_zero, List.set_cons_succ, sl27, sl25, sl36, sl3, sl4, sl5, sl9, nums_length, byts_V, byts_len, N6]); (repeat' (first | exact trivial | exact rfl | exact ⟨_, _, rfl⟩ | exact ⟨_, rfl⟩ | exact Nat.le_of_ble_eq_true rfl | exact Nat.zero_lt_succ _ | omega | (simp only [nums_length, byts_len] at *; omega) | refine And.intro ?_ ?_ | fail)); done)); done))
    | fail)
  refine AW.loop [0, 1, 4, 5, 6] [] (fun m st => ∃ (i : Nat), st = N6 s b (numT b s i) i ∧ i ≤ s.length ∧ m = s.length - i) ?_ ?_
  · exact ⟨_, 0, rfl, Nat.zero_le _, rfl⟩
  rintro m st ⟨i, rfl, hi, rfl⟩
  have e5 : IntKind.i64.wrap ((i : Int) + 1) = ((i + 1 : Nat) : Int) := wrap64_id _ (by omega) (by omega)
  by_cases hin : i < s.length
  · have hx := numT_bound hb s i (by omega)
    have hm : numT b s i * b ≤ 160000000000 ∧ 0 ≤ numT b s i * b := by rcases hb with rfl | rfl <;> omega
    have e6 : IntKind.i64.wrap (numT b s i * b) = numT b s i * b := wrap64_id _ (by omega) (by omega)
    have hd := dig_bound (s.getD i 0)
    have hlt := (s.getD i 0).toNat_lt
    have hn : numT b s (i + 1) = numT b s i * b + dig (s.getD i 0) := rfl
    have e7 : IntKind.i64.wrap (numT b s i * b + dig (s.getD i 0)) = numT b s (i + 1) := by rw [hn]; exact wrap64_id _ (by omega) (by omega)
    have e8 : IntKind.i64.wrap (IntKind.u8.wrap (((s.getD i 0).toNat : Int) - 48)) = (((s.getD i 0).toNat : Int) - 48) % 256 := by
      rw [show IntKind.u8.wrap (((s.getD i 0).toNat : Int) - 48) = (((s.getD i 0).toNat : Int) - 48) % 256 from wrap_unsigned (k := .u8) rfl _]; exact wrap64_id _ (by omega) (by omega)
    by_cases h97 : ((s.getD i 0).toNat : Int) ≥ 97
    · have hdd : dig (s.getD i 0) = ((s.getD i 0).toNat : Int) - 97 + 10 := if_pos h97
      have e9 : IntKind.i64.wrap (IntKind.u8.wrap (((s.getD i 0).toNat : Int) - 97)) = ((s.getD i 0).toNat : Int) - 97 := by
        rw [wrap_in (k := .u8) rfl (by omega) (by show _ < (256 : Int); omega)]; exact wrap64_id _ (by omega) (by omega)
      have e10 : IntKind.i64.wrap (((s.getD i 0).toNat : Int) - 97 + 10) = dig (s.getD i 0) := by rw [hdd]; exact wrap64_id _ (by omega) (by omega)
      have hchk : True := by simp only [TY, List.set_cons_zero, List.set_cons_succ, sl27, sl25, sl36, sl3, sl4, sl5, sl9, nums_length, byts_V, byts_len, N6, e5, e6, e8, e9, e10, e7]
      repeat' (first
        | (refine AWL.opN (sl := SL) rfl rfl rfl trivial ?_; (try (conv => arg -1; simp (disch := omega) only [NSX, Nat.reduceBEq, Nat.reduceAdd, Nat.reduceMul, Int.reduceToNat, Nat.reduceSub, TY, List.set_cons_zero, List.set_cons_succ, sl27, sl25, sl36, sl3, sl4, sl5, sl9, nums_length, byts_V, byts_len, N6, e5, e6, e8, e9, e10, e7])))
        | (refine AW.seqQ ?_; intro Qn hQn)
        | (refine AW.blockQ ?_; intro Qn hQn)
        | refine AW.region ?_
        | ((first | refine AW.skip ?_ | refine AW.ret ?_ | refine AW.exit ?_ | refine AWL.nil ?_ | refine CW.nil ?_); (repeat (first | refine QEq.mp (by assumption) ?_ | simp only [thenQ, Go.Abs.blockQ, ↓reduceIte, Nat.reduceEqDiff])))
        | refine FW.nil ?_
        | refine FW.pass rfl rfl ?_
        | refine FW.go rfl ?_
        | refine CW.skip rfl rfl ?_
        | refine CW.step rfl rfl rfl rfl rfl ?_
        | ((first
          | (refine AWL.boxF (t := 36) rfl rfl rfl rfl rfl ?_)
          | (refine AWL.allocF (t := 36) rfl rfl rfl rfl rfl rfl ?_)
          | (refine CWr.allocF (t := 36) rfl rfl rfl ?_ ?_)
          | (refine AWL.op (sl := SL) rfl rfl ?_ ?_)
          | (refine FW.float rfl rfl rfl rfl rfl ?_)
          | (refine CWr.op rfl ?_ ?_ ?_)
          | (refine CWr.assign rfl ?_ ?_)
          | (refine CWr.alloc rfl rfl rfl rfl ?_)
          | (refine CWr.build rfl rfl rfl rfl ?_ rfl rfl rfl ?_)
          | fail) <;> (try ((first | show AWL _ _ _ _ _ | show AW _ _ _ _ | show FW _ _ _ _ _ _ _ _ _ _ | show CW _ _ _ _ _ _ _ _ _ _ _ _ | (rintro _ _ ⟨rfl, rfl⟩; (try refine And.intro rfl ?_))); (try (conv => arg -1; simp (disch := omega) only [NSX, Nat.reduceBEq, Nat.reduceAdd, Nat.reduceMul, Int.reduceToNat, Nat.reduceSub, TY, List.set_cons_zero, List.set_cons_succ, sl27, sl25, sl36, sl3, sl4, sl5, sl9, nums_length, byts_V, byts_len, N6, e5, e6, e8, e9, e10, e7])))))
        | ((first | refine AWL.guard2 rfl rfl rfl rfl rfl rfl ?_ ?_ | refine CW.guard2 rfl rfl rfl rfl rfl rfl rfl rfl ?_ ?_) <;> (intro hc; (try simp only [Bool.not_true, Bool.not_false] at hc); first | (cases hc; done) | ((try simp only [hc]); (try simp only [beq_iff_eq, bne_iff_ne, decide_eq_true_eq, decide_eq_false_iff_not, beq_eq_false_iff_ne, bne_eq_false_iff_eq, ne_eq, Bool.not_eq_true, Bool.not_eq_false, Bool.not_eq_eq_eq_not, Bool.not_true, Bool.not_false, Decidable.not_not, Int.not_lt, Int.not_le] at hc); (try (exfalso; omega)); (try (guard_hyp hc : True; clear hc)))) <;> (try (first | (with_reducible show AWL _ _ _ _ (St.put _ _ _)) | (with_reducible show CW _ _ _ _ _ _ _ _ _ _ _ (St.put _ _ _))); (try (conv => arg -1; simp (disch := omega) only [NSX, Nat.reduceBEq, Nat.reduceAdd, Nat.reduceMul, Int.reduceToNat, Nat.reduceSub, TY, List.set_cons_zero, List.set_cons_succ, sl27, sl25, sl36, sl3, sl4, sl5, sl9, nums_length, byts_V, byts_len, N6, e5, e6, e8, e9, e10, e7]))))
        | (refine AWL.guard2 rfl rfl rfl rfl rfl rfl (fun hc => ?_) ?_; (cases hc; done))
        | ((first | ((show AW _ (.region _ _ true) _ _); refine AW.calm false [] [] hmix (by (repeat' (first | exact panOk_end | exact panOk_endM | refine panOk_then ?_ | refine panOk_block ?_ | refine QEq.pan (by assumption) ?_))) ?_ rfl ?_; (focus (as_aux_lemma => kernel_rfl))) | refine AWL.guardU rfl rfl rfl rfl rfl rfl ?_ | refine CW.guardU rfl rfl rfl rfl rfl rfl rfl rfl ?_); (try (conv => arg -1; simp (disch := omega) only [NSX, Nat.reduceBEq, Nat.reduceAdd, Nat.reduceMul, Int.reduceToNat, Nat.reduceSub, TY, List.set_cons_zero, List.set_cons_succ, sl27, sl25, sl36, sl3, sl4, sl5, sl9, nums_length, byts_V, byts_len, N6, e5, e6, e8, e9, e10, e7])))
        | refine CW.tail rfl ?_
        | (refine AW.cond rfl (fun hc => ?_) (fun hc => ?_) <;> first | (cases hc; done) | ((try simp only [beq_iff_eq, bne_iff_ne, decide_eq_true_eq, decide_eq_false_iff_not, beq_eq_false_iff_ne, bne_eq_false_iff_eq, ne_eq, Bool.not_eq_true, Bool.not_eq_false, Bool.not_eq_eq_eq_not, Bool.not_true, Bool.not_false, Decidable.not_not, Int.not_lt, Int.not_le] at hc); (try (exfalso; omega)); (try (guard_hyp hc : True; clear hc))))
        | ((refine EndQ.mk rfl rfl rfl ?_ ?_ ?_; (focus (first | exact Or.inl rfl | exact Or.inr rfl))) <;> (try simp (disch := omega) only [NSX, Nat.reduceBEq, Nat.reduceAdd, Nat.reduceMul, Int.reduceToNat, Nat.reduceSub, TY, List.set_cons_zero, List.set_cons_succ, sl27, sl25, sl36, sl3, sl4, sl5, sl9, nums_length, byts_V, byts_len, N6, e5, e6, e8, e9, e10, e7]))
        | (focus ((first | exact trivial | omega | (refine And.intro (by kernel_rfl) (And.intro ⟨_, (by first | exact nums_ints _ _ | rfl), (by first | exact nums_ints _ _ | rfl)⟩ (And.intro ?_ ?_)) <;> (first | rfl | assumption | (simp only [nums_length]; omega) | omega)) | (refine And.intro ?_ (And.intro ?_ ?_); (focus kernel_rfl); (focus kernel_rfl); (focus kernel_rfl)) | ((show newKs _ _ _ = true); kernel_rfl) | ((show FitV _ _ _ _ _ _); (repeat' (first | exact trivial | exact Or.inr (Or.inl rfl) | exact Or.inl rfl | exact Or.inr (Or.inr rfl) | refine And.intro ?_ ?_)); done) | assumption | ((first | refine ld_nums i3 _ _ ?_ | refine ld_nums i5 _ _ ?_ | refine at_nums i3 _ _ ?_ | refine at_nums i5 _ _ ?_); first | assumption | omega | (simp only [List.length_append]; omega)) | (show _ ≤ _; omega) | (simp only [List.length_take, List.length_drop, List.length_append, List.length_cons, List.length_nil]; omega) | ((repeat' (first | exact trivial | exact rfl | exact Nat.le_of_ble_eq_true rfl | refine And.intro ?_ ?_ | fail)); done) | ((try simp (disch := omega) only [NSX, Nat.reduceBEq, Nat.reduceAdd, Nat.reduceMul, Int.reduceToNat, Nat.reduceSub, TY, List.set_cons_zero, List.set_cons_succ, sl27, sl25, sl36, sl3, sl4, sl5, sl9, nums_length, byts_V, byts_len, N6, e5, e6, e8, e9, e10, e7]); (repeat' (first | exact trivial | exact rfl | exact ⟨_, _, rfl⟩ | exact ⟨_, rfl⟩ | exact Nat.le_of_ble_eq_true rfl | exact Nat.zero_lt_succ _ | omega | (simp only [nums_length, byts_len] at *; omega) | refine And.intro ?_ ?_ | fail)); done)); done))
        | fail)
      all_goals try simp (disch := omega) only [NSX, Nat.reduceBEq, Nat.reduceAdd, Nat.reduceMul, Int.reduceToNat, Nat.reduceSub, TY, List.set_cons_zero, List.set_cons_succ, sl27, sl25, sl36, sl3, sl4, sl5, sl9, nums_length, byts_V, byts_len, N6, e5]
      all_goals first
        | exact ⟨s.length - (i + 1), by omega, i + 1, rfl, by omega, rfl⟩
        | (exfalso; omega) | trace_state
    · have hdd : (((s.getD i 0).toNat : Int) - 48) % 256 = dig (s.getD i 0) := (if_neg h97).symm
      have hchk : True := by simp only [TY, List.set_cons_zero, List.set_cons_succ, sl27, sl25, sl36, sl3, sl4, sl5, sl9, nums_length, byts_V, byts_len, N6, e5, e6, e8, hdd, e7]
      repeat' (first
        | (refine AWL.opN (sl := SL) rfl rfl rfl trivial ?_; (try (conv => arg -1; simp (disch := omega) only [NSX, Nat.reduceBEq, Nat.reduceAdd, Nat.reduceMul, Int.reduceToNat, Nat.reduceSub, TY, List.set_cons_zero, List.set_cons_succ, sl27, sl25, sl36, sl3, sl4, sl5, sl9, nums_length, byts_V, byts_len, N6, e5, e6, e8, hdd, e7])))
        | (refine AW.seqQ ?_; intro Qn hQn)
        | (refine AW.blockQ ?_; intro Qn hQn)
        | refine AW.region ?_
        | ((first | refine AW.skip ?_ | refine AW.ret ?_ | refine AW.exit ?_ | refine AWL.nil ?_ | refine CW.nil ?_); (repeat (first | refine QEq.mp (by assumption) ?_ | simp only [thenQ, Go.Abs.blockQ, ↓reduceIte, Nat.reduceEqDiff])))
        | refine FW.nil ?_
        | refine FW.pass rfl rfl ?_
        | refine FW.go rfl ?_
        | refine CW.skip rfl rfl ?_
        | refine CW.step rfl rfl rfl rfl rfl ?_
        | ((first
          | (refine AWL.boxF (t := 36) rfl rfl rfl rfl rfl ?_)
          | (refine AWL.allocF (t := 36) rfl rfl rfl rfl rfl rfl ?_)
          | (refine CWr.allocF (t := 36) rfl rfl rfl ?_ ?_)
          | (refine AWL.op (sl := SL) rfl rfl ?_ ?_)
          | (refine FW.float rfl rfl rfl rfl rfl ?_)
          | (refine CWr.op rfl ?_ ?_ ?_)
          | (refine CWr.assign rfl ?_ ?_)
          | (refine CWr.alloc rfl rfl rfl rfl ?_)
          | (refine CWr.build rfl rfl rfl rfl ?_ rfl rfl rfl ?_)
          | fail) <;> (try ((first | show AWL _ _ _ _ _ | show AW _ _ _ _ | show FW _ _ _ _ _ _ _ _ _ _ | show CW _ _ _ _ _ _ _ _ _ _ _ _ | (rintro _ _ ⟨rfl, rfl⟩; (try refine And.intro rfl ?_))); (try (conv => arg -1; simp (disch := omega) only [NSX, Nat.reduceBEq, Nat.reduceAdd, Nat.reduceMul, Int.reduceToNat, Nat.reduceSub, TY, List.set_cons_zero, List.set_cons_succ, sl27, sl25, sl36, sl3, sl4, sl5, sl9, nums_length, byts_V, byts_len, N6, e5, e6, e8, hdd, e7])))))
        | ((first | refine AWL.guard2 rfl rfl rfl rfl rfl rfl ?_ ?_ | refine CW.guard2 rfl rfl rfl rfl rfl rfl rfl rfl ?_ ?_) <;> (intro hc; (try simp only [Bool.not_true, Bool.not_false] at hc); first | (cases hc; done) | ((try simp only [hc]); (try simp only [beq_iff_eq, bne_iff_ne, decide_eq_true_eq, decide_eq_false_iff_not, beq_eq_false_iff_ne, bne_eq_false_iff_eq, ne_eq, Bool.not_eq_true, Bool.not_eq_false, Bool.not_eq_eq_eq_not, Bool.not_true, Bool.not_false, Decidable.not_not, Int.not_lt, Int.not_le] at hc); (try (exfalso; omega)); (try (guard_hyp hc : True; clear hc)))) <;> (try (first | (with_reducible show AWL _ _ _ _ (St.put _ _ _)) | (with_reducible show CW _ _ _ _ _ _ _ _ _ _ _ (St.put _ _ _))); (try (conv => arg -1; simp (disch := omega) only [NSX, Nat.reduceBEq, Nat.reduceAdd, Nat.reduceMul, Int.reduceToNat, Nat.reduceSub, TY, List.set_cons_zero, List.set_cons_succ, sl27, sl25, sl36, sl3, sl4, sl5, sl9, nums_length, byts_V, byts_len, N6, e5, e6, e8, hdd, e7]))))
        | (refine AWL.guard2 rfl rfl rfl rfl rfl rfl (fun hc => ?_) ?_; (cases hc; done))
        | ((first | ((show AW _ (.region _ _ true) _ _); refine AW.calm false [] [] hmix (by (repeat' (first | exact panOk_end | exact panOk_endM | refine panOk_then ?_ | refine panOk_block ?_ | refine QEq.pan (by assumption) ?_))) ?_ rfl ?_; (focus (as_aux_lemma => kernel_rfl))) | refine AWL.guardU rfl rfl rfl rfl rfl rfl ?_ | refine CW.guardU rfl rfl rfl rfl rfl rfl rfl rfl ?_); (try (conv => arg -1; simp (disch := omega) only [NSX, Nat.reduceBEq, Nat.reduceAdd, Nat.reduceMul, Int.reduceToNat, Nat.reduceSub, TY, List.set_cons_zero, List.set_cons_succ, sl27, sl25, sl36, sl3, sl4, sl5, sl9, nums_length, byts_V, byts_len, N6, e5, e6, e8, hdd, e7])))
        | refine CW.tail rfl ?_
        | (refine AW.cond rfl (fun hc => ?_) (fun hc => ?_) <;> first | (cases hc; done) | ((try simp only [beq_iff_eq, bne_iff_ne, decide_eq_true_eq, decide_eq_false_iff_not, beq_eq_false_iff_ne, bne_eq_false_iff_eq, ne_eq, Bool.not_eq_true, Bool.not_eq_false, Bool.not_eq_eq_eq_not, Bool.not_true, Bool.not_false, Decidable.not_not, Int.not_lt, Int.not_le] at hc); (try (exfalso; omega)); (try (guard_hyp hc : True; clear hc))))
        | ((refine EndQ.mk rfl rfl rfl ?_ ?_ ?_; (focus (first | exact Or.inl rfl | exact Or.inr rfl))) <;> (try simp (disch := omega) only [NSX, Nat.reduceBEq, Nat.reduceAdd, Nat.reduceMul, Int.reduceToNat, Nat.reduceSub, TY, List.set_cons_zero, List.set_cons_succ, sl27, sl25, sl36, sl3, sl4, sl5, sl9, nums_length, byts_V, byts_len, N6, e5, e6, e8, hdd, e7]))
        | (focus ((first | exact trivial | omega | (refine And.intro (by kernel_rfl) (And.intro ⟨_, (by first | exact nums_ints _ _ | rfl), (by first | exact nums_ints _ _ | rfl)⟩ (And.intro ?_ ?_)) <;> (first | rfl | assumption | (simp only [nums_length]; omega) | omega)) | (refine And.intro ?_ (And.intro ?_ ?_); (focus kernel_rfl); (focus kernel_rfl); (focus kernel_rfl)) | ((show newKs _ _ _ = true); kernel_rfl) | ((show FitV _ _ _ _ _ _); (repeat' (first | exact trivial | exact Or.inr (Or.inl rfl) | exact Or.inl rfl | exact Or.inr (Or.inr rfl) | refine And.intro ?_ ?_)); done) | assumption | ((first | refine ld_nums i3 _ _ ?_ | refine ld_nums i5 _ _ ?_ | refine at_nums i3 _ _ ?_ | refine at_nums i5 _ _ ?_); first | assumption | omega | (simp only [List.length_append]; omega)) | (show _ ≤ _; omega) | (simp only [List.length_take, List.length_drop, List.length_append, List.length_cons, List.length_nil]; omega) | ((repeat' (first | exact trivial | exact rfl | exact Nat.le_of_ble_eq_true rfl | refine And.intro ?_ ?_ | fail)); done) | ((try simp (disch := omega) only [NSX, Nat.reduceBEq, Nat.reduceAdd, Nat.reduceMul, Int.reduceToNat, Nat.reduceSub, TY, List.set_cons_zero, List.set_cons_succ, sl27, sl25, sl36, sl3, sl4, sl5, sl9, nums_length, byts_V, byts_len, N6, e5, e6, e8, hdd, e7]); (repeat' (first | exact trivial | exact rfl | exact ⟨_, _, rfl⟩ | exact ⟨_, rfl⟩ | exact Nat.le_of_ble_eq_true rfl | exact Nat.zero_lt_succ _ | omega | (simp only [nums_length, byts_len] at *; omega) | refine And.intro ?_ ?_ | fail)); done)); done))
        | fail)
      all_goals try simp (disch := omega) only [NSX, Nat.reduceBEq, Nat.reduceAdd, Nat.reduceMul, Int.reduceToNat, Nat.reduceSub, TY, List.set_cons_zero, List.set_cons_succ, sl27, sl25, sl36, sl3, sl4, sl5, sl9, nums_length, byts_V, byts_len, N6, e5]
      all_goals first
        | exact ⟨s.length - (i + 1), by omega, i + 1, rfl, by omega, rfl⟩
        | (exfalso; omega) | trace_state
  · obtain rfl : i = s.length := by omega
    have hchk : True := by simp only [TY, List.set_cons_zero, List.set_cons_succ, sl27, sl25, sl36, sl3, sl4, sl5, sl9, nums_length, byts_V, byts_len, N6]
    repeat' (first
      | (refine AWL.opN (sl := SL) rfl rfl rfl trivial ?_; (try (conv => arg -1; simp (disch := omega) only [NSX, Nat.reduceBEq, Nat.reduceAdd, Nat.reduceMul, Int.reduceToNat, Nat.reduceSub, TY, List.set_cons_zero, List.set_cons_succ, sl27, sl25, sl36, sl3, sl4, sl5, sl9, nums_length, byts_V, byts_len, N6])))
      | (refine AW.seqQ ?_; intro Qn hQn)
      | (refine AW.blockQ ?_; intro Qn hQn)
      | refine AW.region ?_
      | ((first | refine AW.skip ?_ | refine AW.ret ?_ | refine AW.exit ?_ | refine AWL.nil ?_ | refine CW.nil ?_); (repeat (first | refine QEq.mp (by assumption) ?_ | simp only [thenQ, Go.Abs.blockQ, ↓reduceIte, Nat.reduceEqDiff])))
      | refine FW.nil ?_
      | refine FW.pass rfl rfl ?_
      | refine FW.go rfl ?_
      | refine CW.skip rfl rfl ?_
      | refine CW.step rfl rfl rfl rfl rfl ?_
      | ((first
        | (refine AWL.boxF (t := 36) rfl rfl rfl rfl rfl ?_)
        | (refine AWL.allocF (t := 36) rfl rfl rfl rfl rfl rfl ?_)
        | (refine CWr.allocF (t := 36) rfl rfl rfl ?_ ?_)
        | (refine AWL.op (sl := SL) rfl rfl ?_ ?_)
        | (refine FW.float rfl rfl rfl rfl rfl ?_)
        | (refine CWr.op rfl ?_ ?_ ?_)
        | (refine CWr.assign rfl ?_ ?_)
        | (refine CWr.alloc rfl rfl rfl rfl ?_)
        | (refine CWr.build rfl rfl rfl rfl ?_ rfl rfl rfl ?_)
        | fail) <;> (try ((first | show AWL _ _ _ _ _ | show AW _ _ _ _ | show FW _ _ _ _ _ _ _ _ _ _ | show CW _ _ _ _ _ _ _ _ _ _ _ _ | (rintro _ _ ⟨rfl, rfl⟩; (try refine And.intro rfl ?_))); (try (conv => arg -1; simp (disch := omega) only [NSX, Nat.reduceBEq, Nat.reduceAdd, Nat.reduceMul, Int.reduceToNat, Nat.reduceSub, TY, List.set_cons_zero, List.set_cons_succ, sl27, sl25, sl36, sl3, sl4, sl5, sl9, nums_length, byts_V, byts_len, N6])))))
      | ((first | refine AWL.guard2 rfl rfl rfl rfl rfl rfl ?_ ?_ | refine CW.guard2 rfl rfl rfl rfl rfl rfl rfl rfl ?_ ?_) <;> (intro hc; (try simp only [Bool.not_true, Bool.not_false] at hc); first | (cases hc; done) | ((try simp only [hc]); (try simp only [beq_iff_eq, bne_iff_ne, decide_eq_true_eq, decide_eq_false_iff_not, beq_eq_false_iff_ne, bne_eq_false_iff_eq, ne_eq, Bool.not_eq_true, Bool.not_eq_false, Bool.not_eq_eq_eq_not, Bool.not_true, Bool.not_false, Decidable.not_not, Int.not_lt, Int.not_le] at hc); (try (exfalso; omega)); (try (guard_hyp hc : True; clear hc)))) <;> (try (first | (with_reducible show AWL _ _ _ _ (St.put _ _ _)) | (with_reducible show CW _ _ _ _ _ _ _ _ _ _ _ (St.put _ _ _))); (try (conv => arg -1; simp (disch := omega) only [NSX, Nat.reduceBEq, Nat.reduceAdd, Nat.reduceMul, Int.reduceToNat, Nat.reduceSub, TY, List.set_cons_zero, List.set_cons_succ, sl27, sl25, sl36, sl3, sl4, sl5, sl9, nums_length, byts_V, byts_len, N6]))))
      | (refine AWL.guard2 rfl rfl rfl rfl rfl rfl (fun hc => ?_) ?_; (cases hc; done))
      | ((first | ((show AW _ (.region _ _ true) _ _); refine AW.calm false [] [] hmix (by (repeat' (first | exact panOk_end | exact panOk_endM | refine panOk_then ?_ | refine panOk_block ?_ | refine QEq.pan (by assumption) ?_))) ?_ rfl ?_; (focus (as_aux_lemma => kernel_rfl))) | refine AWL.guardU rfl rfl rfl rfl rfl rfl ?_ | refine CW.guardU rfl rfl rfl rfl rfl rfl rfl rfl ?_); (try (conv => arg -1; simp (disch := omega) only [NSX, Nat.reduceBEq, Nat.reduceAdd, Nat.reduceMul, Int.reduceToNat, Nat.reduceSub, TY, List.set_cons_zero, List.set_cons_succ, sl27, sl25, sl36, sl3, sl4, sl5, sl9, nums_length, byts_V, byts_len, N6])))
      | refine CW.tail rfl ?_
      | (refine AW.cond rfl (fun hc => ?_) (fun hc => ?_) <;> first | (cases hc; done) | ((try simp only [beq_iff_eq, bne_iff_ne, decide_eq_true_eq, decide_eq_false_iff_not, beq_eq_false_iff_ne, bne_eq_false_iff_eq, ne_eq, Bool.not_eq_true, Bool.not_eq_false, Bool.not_eq_eq_eq_not, Bool.not_true, Bool.not_false, Decidable.not_not, Int.not_lt, Int.not_le] at hc); (try (exfalso; omega)); (try (guard_hyp hc : True; clear hc))))
      | ((refine EndQ.mk rfl rfl rfl ?_ ?_ ?_; (focus (first | exact Or.inl rfl | exact Or.inr rfl))) <;> (try simp (disch := omega) only [NSX, Nat.reduceBEq, Nat.reduceAdd, Nat.reduceMul, Int.reduceToNat, Nat.reduceSub, TY, List.set_cons_zero, List.set_cons_succ, sl27, sl25, sl36, sl3, sl4, sl5, sl9, nums_length, byts_V, byts_len, N6]))
      | (focus ((first | exact trivial | omega | (refine And.intro (by kernel_rfl) (And.intro ⟨_, (by first | exact nums_ints _ _ | rfl), (by first | exact nums_ints _ _ | rfl)⟩ (And.intro ?_ ?_)) <;> (first | rfl | assumption | (simp only [nums_length]; omega) | omega)) | (refine And.intro ?_ (And.intro ?_ ?_); (focus kernel_rfl); (focus kernel_rfl); (focus kernel_rfl)) | ((show newKs _ _ _ = true); kernel_rfl) | ((show FitV _ _ _ _ _ _); (repeat' (first | exact trivial | exact Or.inr (Or.inl rfl) | exact Or.inl rfl | exact Or.inr (Or.inr rfl) | refine And.intro ?_ ?_)); done) | assumption | ((first | refine ld_nums i3 _ _ ?_ | refine ld_nums i5 _ _ ?_ | refine at_nums i3 _ _ ?_ | refine at_nums i5 _ _ ?_); first | assumption | omega | (simp only [List.length_append]; omega)) | (show _ ≤ _; omega) | (simp only [List.length_take, List.length_drop, List.length_append, List.length_cons, List.length_nil]; omega) | ((repeat' (first | exact trivial | exact rfl | exact Nat.le_of_ble_eq_true rfl | refine And.intro ?_ ?_ | fail)); done) | ((try simp (disch := omega) only [NSX, Nat.reduceBEq, Nat.reduceAdd, Nat.reduceMul, Int.reduceToNat, Nat.reduceSub, TY, List.set_cons_zero, List.set_cons_succ, sl27, sl25, sl36, sl3, sl4, sl5, sl9, nums_length, byts_V, byts_len, N6]); (repeat' (first | exact trivial | exact rfl | exact ⟨_, _, rfl⟩ | exact ⟨_, rfl⟩ | exact Nat.le_of_ble_eq_true rfl | exact Nat.zero_lt_succ _ | omega | (simp only [nums_length, byts_len] at *; omega) | refine And.intro ?_ ?_ | fail)); done)); done))
      | fail)
    all_goals first | exact ⟨trivial, trivial⟩ | exact ⟨rfl, trivial⟩ | exact ⟨rfl, rfl⟩ | exact ⟨trivial, rfl⟩ | (exfalso; omega) | trace_state
end Go.Proofs.Ytmoalocogccnbaa
