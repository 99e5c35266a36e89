/- LebPadded. -/
import Derived.Test.YticidhkilfkgbaaV4
import Derived.Test.YticidhkilfkgbaaLCuts
namespace Go.Proofs.Yticidhkilfkgbaa
set_option linter.unusedSimpArgs false
set_option linter.unusedVariables false
open Go Go.Abs
attribute [local irreducible] AW AWL AC FW CW CWr IntKind.wrap

def SP (n : Nat) (m : Int) (s len : Nat) (c : List V) (i : Int) : St :=
  { n := 84, slots := [(0, .int .u32 n), (1, .int .u8 m), (5, .ref 5 0 len 1), (6, .int .i64 s), (7, .int .i64 i)], mem := [(5, ⟨true, c⟩)] }
theorem uRd_long (bits : Int) (rest : List Int) (s : Nat) (n : Int) (k : Nat) (v at_ : Int) (h : bits ≤ 7 * ((k : Int) + s)) (hk : 7 * (k : Int) < bits) : uRd bits (padU s n ++ rest) (7 * k) v at_ = (0, 0, 6) := by
  induction s generalizing n k v at_ with
  | zero => omega
  | succ s ih =>
    have hc : ((7 * k : Nat) : Int) = 7 * (k : Int) := by omega
    simp only [padU, List.cons_append, uRd, hc]
    by_cases h7 : bits - 7 * (k : Int) ≤ 7
    · rw [if_pos (.inr ⟨h7, by omega⟩)]
    · rw [if_neg (by rintro (⟨h, _⟩ | ⟨h, _⟩) <;> omega), if_neg (by omega)]
      have := ih (n / 128) (k + 1) (v + (n % 128 + 128) % 128 * 2 ^ (7 * k)) (at_ + 1) (by omega) (by omega)
      rw [show 7 * (k + 1) = 7 * k + 7 from by omega] at this
      exact this
theorem setI_last {l : List Int} {i : Nat} (h : l.length = i + 1) (x : Int) : setI l i x = l.take i ++ [x] := by
  unfold setI; rw [List.drop_of_length_le (by omega), List.append_nil]
set_option maxRecDepth 4000 in
set_option maxHeartbeats 4000000 in
theorem lebPadded_ok (n : Nat) (hn2 : n < 2 ^ 32) (m : Int) (hm : 0 ≤ m ∧ m ≤ 255) :
    AC Try.prog 8 [.int .u32 n, .int .u8 m] (fun r m => r = .bool true ∧ m = []) := by
  have hn : n < 2 ^ 64 := Nat.lt_of_lt_of_le hn2 (by decide)
  obtain ⟨s, hs, hs2⟩ := putU_pad n
  have hs5 : s ≤ 4 := by
    have := putU_len 4 n (Nat.lt_of_lt_of_le hn2 (by decide))
    rw [hs, padU_len] at this; omega
  have e1 : IntKind.u64.wrap (n : Int) = n := wrap_in rfl (by omega) (by show _ < (18446744073709551616 : Int); have : n < 4294967296 := hn2; omega)
  have e2 : m.tmod 7 = m % 7 := Int.tmod_eq_emod_of_nonneg hm.1
  have e3 : IntKind.i64.wrap (m % 7) = m % 7 := wrap64_id _ (by omega) (by omega)
  have e4 : ((s : Int) + 1) - 1 = s := by omega
  have hlen := padU_len s n
  have hU : True := trivial
  refine AC.enter Try.func8 rfl (Nat.le_of_ble_eq_true rfl) ?_
  simp only [Try.f8]
  repeat' (first
    | refine AW.seq ?_
    | refine AW.block ?_
    | refine AW.region ?_
    | (refine AW.skip ?_; (try simp only [thenQ, blockQ, ↓reduceIte, Nat.reduceEqDiff]))
    | (refine AW.ret ?_; (try simp only [thenQ, blockQ, ↓reduceIte, Nat.reduceEqDiff]))
    | (refine AW.exit ?_; (try simp only [thenQ, blockQ, ↓reduceIte, Nat.reduceEqDiff]))
    | (refine AWL.nil ?_; (try simp only [thenQ, blockQ, ↓reduceIte, Nat.reduceEqDiff]))
    | (refine DQ.nil ?_; (try simp only [thenQ, blockQ, ↓reduceIte, Nat.reduceEqDiff]))
    | refine FW.nil ?_
    | refine FW.pass rfl rfl ?_
    | refine FW.go rfl ?_
    | (refine CW.nil ?_; (try simp only [thenQ, blockQ, ↓reduceIte, Nat.reduceEqDiff]))
    | refine CW.skip rfl rfl ?_
    | refine CW.step rfl rfl rfl rfl rfl ?_
    | ((first
      | (refine AWL.op (sl := SL) rfl rfl ?_ ?_)
      | (refine DQ.op rfl rfl rfl rfl rfl ?_ ?_)
      | (refine DQ.yes rfl ?_ ?_)
      | (refine DQ.step rfl rfl rfl rfl (QStep.assign rfl) ?_)
      | (refine FW.float rfl rfl rfl rfl rfl ?_)
      | (refine CWr.op rfl ?_ ?_ ?_)
      | (refine CWr.assign rfl ?_ ?_)
      | (refine CWr.alloc rfl rfl rfl rfl ?_)
      | (refine CWr.build rfl rfl rfl rfl ?_ rfl rfl rfl ?_)
      | (refine AWL.frzA rfl rfl ?_)
      | (refine AWL.callV (f := 10) rfl rfl rfl rfl ?_ (Nat.le_of_ble_eq_true rfl) rfl (awake_ok) ?_; (focus kernel_rfl))
      | (refine AWL.call (f := 10) rfl rfl rfl ?_ rfl (Nat.le_of_ble_eq_true rfl) rfl (awake_ok) ?_; (focus kernel_rfl))
      | (refine CWr.call (f := 10) rfl ?_ rfl (awake_ok) (fun _ _ h => h) ?_ ?_ ?_; (focus kernel_rfl))
      | (refine DQ.step rfl rfl rfl rfl (QStep.call (f := 10) rfl ?_ rfl (awake_ok) (fun _ _ h => h) (fun _ => rfl)) ?_; (focus kernel_rfl))
      | (refine DQ.yesC (QStep.call (f := 10) rfl ?_ rfl (awake_ok) (fun _ _ h => h) (fun _ => rfl)) ?_; (focus kernel_rfl))
      | (refine AWL.callV (f := 15) rfl rfl rfl rfl ?_ (Nat.le_of_ble_eq_true rfl) rfl (pu_one n hn) ?_; (focus kernel_rfl))
      | (refine AWL.call (f := 15) rfl rfl rfl ?_ rfl (Nat.le_of_ble_eq_true rfl) rfl (pu_one n hn) ?_; (focus kernel_rfl))
      | (refine CWr.call (f := 15) rfl ?_ rfl (pu_one n hn) (fun _ _ h => h) ?_ ?_ ?_; (focus kernel_rfl))
      | (refine DQ.step rfl rfl rfl rfl (QStep.call (f := 15) rfl ?_ rfl (pu_one n hn) (fun _ _ h => h) (fun _ => rfl)) ?_; (focus kernel_rfl))
      | (refine DQ.yesC (QStep.call (f := 15) rfl ?_ rfl (pu_one n hn) (fun _ _ h => h) (fun _ => rfl)) ?_; (focus kernel_rfl))
      | (refine AWL.callV (f := 11) rfl rfl rfl rfl ?_ (Nat.le_of_ble_eq_true rfl) rfl (hU) ?_; (focus kernel_rfl))
      | (refine AWL.call (f := 11) rfl rfl rfl ?_ rfl (Nat.le_of_ble_eq_true rfl) rfl (hU) ?_; (focus kernel_rfl))
      | (refine CWr.call (f := 11) rfl ?_ rfl (hU) (fun _ _ h => h) ?_ ?_ ?_; (focus kernel_rfl))
      | (refine DQ.step rfl rfl rfl rfl (QStep.call (f := 11) rfl ?_ rfl (hU) (fun _ _ h => h) (fun _ => rfl)) ?_; (focus kernel_rfl))
      | (refine DQ.yesC (QStep.call (f := 11) rfl ?_ rfl (hU) (fun _ _ h => h) (fun _ => rfl)) ?_; (focus kernel_rfl))
      | fail) <;> (first | ((first | show AWL _ _ _ _ _ | show DQ _ _ _ _ _ _ | show AW _ _ _ _ | show FW _ _ _ _ _ _ _ _ _ _ | show CW _ _ _ _ _ _ _ _ _ _ _ _ | (rintro _ _ ⟨rfl, rfl⟩; (try refine And.intro rfl ?_))); (try simp (disch := omega) only [NS, ints_nums, ints_nil, ints_cons, eqL_nil, eqL_cons, eqS_int, eqS_bool, eqS_str, setI_nums, setI_nums2, List.filterMap_cons, List.filterMap_nil, Option.map_some, Option.map_none, St.add, St.wm, St.wipe1, St.wipeL, callObjs, callKs, ikey, List.nil_append, List.cons_append, Nat.reduceBEq, Nat.reduceAdd, Nat.reduceMul, Int.reduceToNat, Nat.reduceSub, TY, slx, SP, e1, hs, hlen])) | (focus ((first | exact trivial | omega | (refine And.intro (by kernel_rfl) (And.intro ⟨_, (by first | exact nums_ints _ _ | rfl), (by first | exact nums_ints _ _ | rfl)⟩ (And.intro ?_ ?_)) <;> (first | rfl | assumption | (simp only [nums_length]; omega) | omega)) | (refine And.intro ?_ (And.intro ?_ ?_); (focus kernel_rfl); (focus kernel_rfl); (focus kernel_rfl)) | ((show newKs _ _ _ = true); kernel_rfl) | ((show FitV _ _ _ _ _ _); (repeat' (first | exact trivial | exact Or.inr (Or.inl rfl) | exact Or.inl rfl | exact Or.inr (Or.inr rfl) | refine And.intro ?_ ?_)); done) | exact ld_nums i3 _ _ (by first | assumption | omega | (simp only [List.length_append]; omega)) | exact ld_nums i5 _ _ (by first | assumption | omega | (simp only [List.length_append]; omega)) | exact ld_nums i24 _ _ (by first | assumption | omega | (simp only [List.length_append]; omega)) | exact at_nums i5 _ _ (by first | assumption | omega) | (show _ ≤ _; omega) | (simp only [List.length_take, List.length_drop, List.length_append, List.length_cons, List.length_nil]; omega) | ((repeat' (first | exact trivial | exact rfl | exact Nat.le_of_ble_eq_true rfl | refine And.intro ?_ ?_ | fail)); done) | ((try simp (disch := omega) only [NS, ints_nums, ints_nil, ints_cons, eqL_nil, eqL_cons, eqS_int, eqS_bool, eqS_str, setI_nums, setI_nums2, List.filterMap_cons, List.filterMap_nil, Option.map_some, Option.map_none, St.add, St.wm, St.wipe1, St.wipeL, callObjs, callKs, ikey, List.nil_append, List.cons_append, Nat.reduceBEq, Nat.reduceAdd, Nat.reduceMul, Int.reduceToNat, Nat.reduceSub, TY, slx, SP, e1, hs, hlen]); (repeat' (first | exact trivial | exact rfl | exact ⟨_, _, rfl⟩ | exact ⟨_, rfl⟩ | exact Nat.le_of_ble_eq_true rfl | exact Nat.zero_lt_succ _ | omega | (simp only [nums_length]; omega) | refine And.intro ?_ ?_ | fail)); done)); done))))
    | (refine AWL.guard2 rfl rfl rfl rfl rfl rfl ?_ ?_ <;> (intro hc; (try simp only [Bool.not_true, Bool.not_false] at hc); first | (cases hc; done) | ((try simp only [hc]); (try simp only [beq_iff_eq, bne_iff_ne, decide_eq_true_eq, decide_eq_false_iff_not, beq_eq_false_iff_ne, bne_eq_false_iff_eq, ne_eq, Bool.not_eq_true, Bool.not_eq_false, Bool.not_eq_eq_eq_not, Bool.not_true, Bool.not_false, Decidable.not_not, Int.not_lt, Int.not_le] at hc); (try (exfalso; omega)); (try (guard_hyp hc : True; clear hc)))))
    | (refine AWL.guard2 rfl rfl rfl rfl rfl rfl (fun hc => ?_) ?_; (cases hc; done))
    | (refine AW.calm false [] [] hmix (by (repeat' (first | exact panOk_end | exact panOk_endM | refine panOk_then ?_ | refine panOk_block ?_))) ?_ rfl ?_; (focus (as_aux_lemma => kernel_rfl)); (try simp (disch := omega) only [NS, ints_nums, ints_nil, ints_cons, eqL_nil, eqL_cons, eqS_int, eqS_bool, eqS_str, setI_nums, setI_nums2, List.filterMap_cons, List.filterMap_nil, Option.map_some, Option.map_none, St.add, St.wm, St.wipe1, St.wipeL, callObjs, callKs, ikey, List.nil_append, List.cons_append, Nat.reduceBEq, Nat.reduceAdd, Nat.reduceMul, Int.reduceToNat, Nat.reduceSub, TY, slx, SP, e1, hs, hlen]))
    | (refine CW.guard2 rfl rfl rfl rfl rfl rfl rfl rfl ?_ ?_ <;> (intro hc; (try simp only [Bool.not_true, Bool.not_false] at hc); first | (cases hc; done) | ((try simp only [hc]); (try simp only [beq_iff_eq, bne_iff_ne, decide_eq_true_eq, decide_eq_false_iff_not, beq_eq_false_iff_ne, bne_eq_false_iff_eq, ne_eq, Bool.not_eq_true, Bool.not_eq_false, Bool.not_eq_eq_eq_not, Bool.not_true, Bool.not_false, Decidable.not_not, Int.not_lt, Int.not_le] at hc); (try (exfalso; omega)); (try (guard_hyp hc : True; clear hc)))))
    | (refine CW.guardU rfl rfl rfl rfl rfl rfl rfl rfl ?_; (try simp (disch := omega) only [NS, ints_nums, ints_nil, ints_cons, eqL_nil, eqL_cons, eqS_int, eqS_bool, eqS_str, setI_nums, setI_nums2, List.filterMap_cons, List.filterMap_nil, Option.map_some, Option.map_none, St.add, St.wm, St.wipe1, St.wipeL, callObjs, callKs, ikey, List.nil_append, List.cons_append, Nat.reduceBEq, Nat.reduceAdd, Nat.reduceMul, Int.reduceToNat, Nat.reduceSub, TY, slx, SP, e1, hs, hlen]))
    | refine CW.tail rfl ?_
    | (refine AWL.guardU rfl rfl rfl rfl rfl rfl ?_; (try simp (disch := omega) only [NS, ints_nums, ints_nil, ints_cons, eqL_nil, eqL_cons, eqS_int, eqS_bool, eqS_str, setI_nums, setI_nums2, List.filterMap_cons, List.filterMap_nil, Option.map_some, Option.map_none, St.add, St.wm, St.wipe1, St.wipeL, callObjs, callKs, ikey, List.nil_append, List.cons_append, Nat.reduceBEq, Nat.reduceAdd, Nat.reduceMul, Int.reduceToNat, Nat.reduceSub, TY, slx, SP, e1, hs, hlen]))
    | (refine DQ.guardU rfl rfl rfl rfl rfl rfl rfl ?_; (try simp (disch := omega) only [NS, ints_nums, ints_nil, ints_cons, eqL_nil, eqL_cons, eqS_int, eqS_bool, eqS_str, setI_nums, setI_nums2, List.filterMap_cons, List.filterMap_nil, Option.map_some, Option.map_none, St.add, St.wm, St.wipe1, St.wipeL, callObjs, callKs, ikey, List.nil_append, List.cons_append, Nat.reduceBEq, Nat.reduceAdd, Nat.reduceMul, Int.reduceToNat, Nat.reduceSub, TY, slx, SP, e1, hs, hlen]))
    | refine DQ.tail rfl ?_
    | (refine DQ.guard2 rfl rfl rfl rfl rfl rfl rfl ?_ ?_ <;> (intro hc; (try simp only [Bool.not_true, Bool.not_false] at hc); first | (cases hc; done) | ((try simp only [hc]); (try simp only [beq_iff_eq, bne_iff_ne, decide_eq_true_eq, decide_eq_false_iff_not, beq_eq_false_iff_ne, bne_eq_false_iff_eq, ne_eq, Bool.not_eq_true, Bool.not_eq_false, Bool.not_eq_eq_eq_not, Bool.not_true, Bool.not_false, Decidable.not_not, Int.not_lt, Int.not_le] at hc); (try (exfalso; omega)); (try (guard_hyp hc : True; clear hc)))))
    | (refine AW.cond rfl (fun hc => ?_) (fun hc => ?_) <;> first | (cases hc; done) | ((try simp only [beq_iff_eq, bne_iff_ne, decide_eq_true_eq, decide_eq_false_iff_not, beq_eq_false_iff_ne, bne_eq_false_iff_eq, ne_eq, Bool.not_eq_true, Bool.not_eq_false, Bool.not_eq_eq_eq_not, Bool.not_true, Bool.not_false, Decidable.not_not, Int.not_lt, Int.not_le] at hc); (try (exfalso; omega)); (try (guard_hyp hc : True; clear hc))))
    | (refine EndQ.mk rfl rfl rfl ?_ ?_ ?_; (focus (first | exact Or.inl rfl | exact Or.inr rfl)); (focus ((first | exact trivial | omega | (refine And.intro (by kernel_rfl) (And.intro ⟨_, (by first | exact nums_ints _ _ | rfl), (by first | exact nums_ints _ _ | rfl)⟩ (And.intro ?_ ?_)) <;> (first | rfl | assumption | (simp only [nums_length]; omega) | omega)) | (refine And.intro ?_ (And.intro ?_ ?_); (focus kernel_rfl); (focus kernel_rfl); (focus kernel_rfl)) | ((show newKs _ _ _ = true); kernel_rfl) | ((show FitV _ _ _ _ _ _); (repeat' (first | exact trivial | exact Or.inr (Or.inl rfl) | exact Or.inl rfl | exact Or.inr (Or.inr rfl) | refine And.intro ?_ ?_)); done) | exact ld_nums i3 _ _ (by first | assumption | omega | (simp only [List.length_append]; omega)) | exact ld_nums i5 _ _ (by first | assumption | omega | (simp only [List.length_append]; omega)) | exact ld_nums i24 _ _ (by first | assumption | omega | (simp only [List.length_append]; omega)) | exact at_nums i5 _ _ (by first | assumption | omega) | (show _ ≤ _; omega) | (simp only [List.length_take, List.length_drop, List.length_append, List.length_cons, List.length_nil]; omega) | ((repeat' (first | exact trivial | exact rfl | exact Nat.le_of_ble_eq_true rfl | refine And.intro ?_ ?_ | fail)); done) | ((try simp (disch := omega) only [NS, ints_nums, ints_nil, ints_cons, eqL_nil, eqL_cons, eqS_int, eqS_bool, eqS_str, setI_nums, setI_nums2, List.filterMap_cons, List.filterMap_nil, Option.map_some, Option.map_none, St.add, St.wm, St.wipe1, St.wipeL, callObjs, callKs, ikey, List.nil_append, List.cons_append, Nat.reduceBEq, Nat.reduceAdd, Nat.reduceMul, Int.reduceToNat, Nat.reduceSub, TY, slx, SP, e1, hs, hlen]); (repeat' (first | exact trivial | exact rfl | exact ⟨_, _, rfl⟩ | exact ⟨_, rfl⟩ | exact Nat.le_of_ble_eq_true rfl | exact Nat.zero_lt_succ _ | omega | (simp only [nums_length]; omega) | refine And.intro ?_ ?_ | fail)); done)); done)); (try simp (disch := omega) only [NS, ints_nums, ints_nil, ints_cons, eqL_nil, eqL_cons, eqS_int, eqS_bool, eqS_str, setI_nums, setI_nums2, List.filterMap_cons, List.filterMap_nil, Option.map_some, Option.map_none, St.add, St.wm, St.wipe1, St.wipeL, callObjs, callKs, ikey, List.nil_append, List.cons_append, Nat.reduceBEq, Nat.reduceAdd, Nat.reduceMul, Int.reduceToNat, Nat.reduceSub, TY, slx, SP, e1, hs, hlen]))
    | fail)
  refine AW.loop [0, 1, 5, 6, 7] [5] (fun t st => ∃ (i len : Nat) (c : List V), st = SP n m (s + 1) len c i ∧ (i : Int) ≤ m % 7 ∧ t = (m % 7).toNat - i ∧ len = s + i + 1 ∧ c = nums .u8 (padU (s + i) n)) ?_ ?_
  · exact ⟨_, 0, _, _, rfl, by omega, rfl, rfl, congrArg (nums .u8) (List.take_of_length_le (by omega))⟩
  · rintro t st ⟨i, len, c, rfl, hi, rfl, rfl, rfl⟩
    have hl := padU_len (s + i) n
    have hby := padU_bytes (s + i) n
    have hT : (padU (s + i) n).take (s + i + 1) = padU (s + i) n := List.take_of_length_le (by omega)
    have e6 : IntKind.i64.wrap (((s + i + 1 : Nat) : Int) - 1) = ((s + i : Nat) : Int) := by rw [show ((s + i + 1 : Nat) : Int) - 1 = ((s + i : Nat) : Int) from by omega]; exact wrap64_id _ (by omega) (by omega)
    have e7 : IntKind.i64.wrap ((i : Int) + 1) = ((i + 1 : Nat) : Int) := wrap64_id _ (by omega) (by omega)
    have hlast := hby _ (getD_mem (l := padU (s + i) n) (k := s + i) (by omega))
    have e8 : bitsOp .or .u8 ((padU (s + i) n).getD (s + i) 0) 128 = (padU (s + i) n).getD (s + i) 0 % 128 + 128 := by
      have := lowByte ((padU (s + i) n).getD (s + i) 0)
      rwa [show IntKind.u8.wrap ((padU (s + i) n).getD (s + i) 0) = (padU (s + i) n).getD (s + i) 0 from wrap_in rfl hlast.1 (by have := hlast.2; show _ < (256 : Int); omega)] at this
    have e9 : setI (padU (s + i) n) (s + i) ((padU (s + i) n).getD (s + i) 0 % 128 + 128) ++ [0] = padU (s + (i + 1)) n := by
      rw [setI_last hl]
      exact padU_more (s + i) n (by omega) (by
        have : n < 2 ^ (7 * (s + i + 1)) := Nat.lt_of_lt_of_le hs2 (Nat.pow_le_pow_right (by decide) (by omega))
        exact_mod_cast this)
    have hT2 : (setI (padU (s + i) n) (s + i) ((padU (s + i) n).getD (s + i) 0 % 128 + 128)).take (s + i + 1) = setI (padU (s + i) n) (s + i) ((padU (s + i) n).getD (s + i) 0 % 128 + 128) := List.take_of_length_le (by rw [setI_len _ (by omega)]; omega)
    have hU := u_at (s + i + 1) (padU (s + i) n) hl.symm hby (by omega) 0 32
    rw [show uSpec (padU (s + i) n) 0 32 = if s + i ≥ 5 then (0, 0, 6) else ((n : Int), ((s + i + 1 : Nat) : Int), 0) from by
      rw [uSpec, if_neg (by omega)]
      split
      · have := uRd_long 32 [] (s + i) n 0 0 0 (by omega) (by omega)
        rw [List.append_nil] at this; exact this
      · have := uRd_pad 32 [] (s + i) n 0 0 0 (by omega)
        rw [List.append_nil, show 7 * 0 = 0 from rfl] at this
        have hlt : (n : Int) < 2 ^ (7 * (s + i + 1)) := by
          have : n < 2 ^ (7 * (s + i + 1)) := Nat.lt_of_lt_of_le hs2 (Nat.pow_le_pow_right (by decide) (by omega))
          exact_mod_cast this
        rw [Int.emod_eq_of_lt (by omega) hlt, if_pos (by show (n : Int) < 2 ^ 32; exact_mod_cast hn2)] at this
        rw [show List.drop (Int.toNat 0) (padU (s + i) n) = padU (s + i) n from rfl, this]
        refine Prod.ext ?_ (Prod.ext ?_ rfl)
        · simp
        · simp only; omega] at hU
    by_cases h5 : s + i ≥ 5
    all_goals (first | rw [if_pos h5] at hU | rw [if_neg h5] at hU)
    all_goals (
      repeat' (first
        | refine AW.seq ?_
        | refine AW.block ?_
        | refine AW.region ?_
        | (refine AW.skip ?_; (try simp only [thenQ, blockQ, ↓reduceIte, Nat.reduceEqDiff]))
        | (refine AW.ret ?_; (try simp only [thenQ, blockQ, ↓reduceIte, Nat.reduceEqDiff]))
        | (refine AW.exit ?_; (try simp only [thenQ, blockQ, ↓reduceIte, Nat.reduceEqDiff]))
        | (refine AWL.nil ?_; (try simp only [thenQ, blockQ, ↓reduceIte, Nat.reduceEqDiff]))
        | (refine DQ.nil ?_; (try simp only [thenQ, blockQ, ↓reduceIte, Nat.reduceEqDiff]))
        | refine FW.nil ?_
        | refine FW.pass rfl rfl ?_
        | refine FW.go rfl ?_
        | (refine CW.nil ?_; (try simp only [thenQ, blockQ, ↓reduceIte, Nat.reduceEqDiff]))
        | refine CW.skip rfl rfl ?_
        | refine CW.step rfl rfl rfl rfl rfl ?_
        | ((first
          | (refine AWL.op (sl := SL) rfl rfl ?_ ?_)
          | (refine DQ.op rfl rfl rfl rfl rfl ?_ ?_)
          | (refine DQ.yes rfl ?_ ?_)
          | (refine DQ.step rfl rfl rfl rfl (QStep.assign rfl) ?_)
          | (refine FW.float rfl rfl rfl rfl rfl ?_)
          | (refine CWr.op rfl ?_ ?_ ?_)
          | (refine CWr.assign rfl ?_ ?_)
          | (refine CWr.alloc rfl rfl rfl rfl ?_)
          | (refine CWr.build rfl rfl rfl rfl ?_ rfl rfl rfl ?_)
          | (refine AWL.frzA rfl rfl ?_)
          | (refine AWL.callV (f := 10) rfl rfl rfl rfl ?_ (Nat.le_of_ble_eq_true rfl) rfl (awake_ok) ?_; (focus kernel_rfl))
          | (refine AWL.call (f := 10) rfl rfl rfl ?_ rfl (Nat.le_of_ble_eq_true rfl) rfl (awake_ok) ?_; (focus kernel_rfl))
          | (refine CWr.call (f := 10) rfl ?_ rfl (awake_ok) (fun _ _ h => h) ?_ ?_ ?_; (focus kernel_rfl))
          | (refine DQ.step rfl rfl rfl rfl (QStep.call (f := 10) rfl ?_ rfl (awake_ok) (fun _ _ h => h) (fun _ => rfl)) ?_; (focus kernel_rfl))
          | (refine DQ.yesC (QStep.call (f := 10) rfl ?_ rfl (awake_ok) (fun _ _ h => h) (fun _ => rfl)) ?_; (focus kernel_rfl))
          | (refine AWL.callV (f := 15) rfl rfl rfl rfl ?_ (Nat.le_of_ble_eq_true rfl) rfl (pu_one n hn) ?_; (focus kernel_rfl))
          | (refine AWL.call (f := 15) rfl rfl rfl ?_ rfl (Nat.le_of_ble_eq_true rfl) rfl (pu_one n hn) ?_; (focus kernel_rfl))
          | (refine CWr.call (f := 15) rfl ?_ rfl (pu_one n hn) (fun _ _ h => h) ?_ ?_ ?_; (focus kernel_rfl))
          | (refine DQ.step rfl rfl rfl rfl (QStep.call (f := 15) rfl ?_ rfl (pu_one n hn) (fun _ _ h => h) (fun _ => rfl)) ?_; (focus kernel_rfl))
          | (refine DQ.yesC (QStep.call (f := 15) rfl ?_ rfl (pu_one n hn) (fun _ _ h => h) (fun _ => rfl)) ?_; (focus kernel_rfl))
          | (refine AWL.callV (f := 11) rfl rfl rfl rfl ?_ (Nat.le_of_ble_eq_true rfl) rfl (hU) ?_; (focus kernel_rfl))
          | (refine AWL.call (f := 11) rfl rfl rfl ?_ rfl (Nat.le_of_ble_eq_true rfl) rfl (hU) ?_; (focus kernel_rfl))
          | (refine CWr.call (f := 11) rfl ?_ rfl (hU) (fun _ _ h => h) ?_ ?_ ?_; (focus kernel_rfl))
          | (refine DQ.step rfl rfl rfl rfl (QStep.call (f := 11) rfl ?_ rfl (hU) (fun _ _ h => h) (fun _ => rfl)) ?_; (focus kernel_rfl))
          | (refine DQ.yesC (QStep.call (f := 11) rfl ?_ rfl (hU) (fun _ _ h => h) (fun _ => rfl)) ?_; (focus kernel_rfl))
          | fail) <;> (first | ((first | show AWL _ _ _ _ _ | show DQ _ _ _ _ _ _ | show AW _ _ _ _ | show FW _ _ _ _ _ _ _ _ _ _ | show CW _ _ _ _ _ _ _ _ _ _ _ _ | (rintro _ _ ⟨rfl, rfl⟩; (try refine And.intro rfl ?_))); (try simp (disch := omega) only [NS, ints_nums, ints_nil, ints_cons, eqL_nil, eqL_cons, eqS_int, eqS_bool, eqS_str, setI_nums, setI_nums2, List.filterMap_cons, List.filterMap_nil, Option.map_some, Option.map_none, St.add, St.wm, St.wipe1, St.wipeL, callObjs, callKs, ikey, List.nil_append, List.cons_append, Nat.reduceBEq, Nat.reduceAdd, Nat.reduceMul, Int.reduceToNat, Nat.reduceSub, TY, slx, SP, e1, e2, e3, e6, e7, e8, e9, hl, hT, hT2])) | (focus ((first | exact trivial | omega | (refine And.intro (by kernel_rfl) (And.intro ⟨_, (by first | exact nums_ints _ _ | rfl), (by first | exact nums_ints _ _ | rfl)⟩ (And.intro ?_ ?_)) <;> (first | rfl | assumption | (simp only [nums_length]; omega) | omega)) | (refine And.intro ?_ (And.intro ?_ ?_); (focus kernel_rfl); (focus kernel_rfl); (focus kernel_rfl)) | ((show newKs _ _ _ = true); kernel_rfl) | ((show FitV _ _ _ _ _ _); (repeat' (first | exact trivial | exact Or.inr (Or.inl rfl) | exact Or.inl rfl | exact Or.inr (Or.inr rfl) | refine And.intro ?_ ?_)); done) | exact ld_nums i3 _ _ (by first | assumption | omega | (simp only [List.length_append]; omega)) | exact ld_nums i5 _ _ (by first | assumption | omega | (simp only [List.length_append]; omega)) | exact ld_nums i24 _ _ (by first | assumption | omega | (simp only [List.length_append]; omega)) | exact at_nums i5 _ _ (by first | assumption | omega) | (show _ ≤ _; omega) | (simp only [List.length_take, List.length_drop, List.length_append, List.length_cons, List.length_nil]; omega) | ((repeat' (first | exact trivial | exact rfl | exact Nat.le_of_ble_eq_true rfl | refine And.intro ?_ ?_ | fail)); done) | ((try simp (disch := omega) only [NS, ints_nums, ints_nil, ints_cons, eqL_nil, eqL_cons, eqS_int, eqS_bool, eqS_str, setI_nums, setI_nums2, List.filterMap_cons, List.filterMap_nil, Option.map_some, Option.map_none, St.add, St.wm, St.wipe1, St.wipeL, callObjs, callKs, ikey, List.nil_append, List.cons_append, Nat.reduceBEq, Nat.reduceAdd, Nat.reduceMul, Int.reduceToNat, Nat.reduceSub, TY, slx, SP, e1, e2, e3, e6, e7, e8, e9, hl, hT, hT2]); (repeat' (first | exact trivial | exact rfl | exact ⟨_, _, rfl⟩ | exact ⟨_, rfl⟩ | exact Nat.le_of_ble_eq_true rfl | exact Nat.zero_lt_succ _ | omega | (simp only [nums_length]; omega) | refine And.intro ?_ ?_ | fail)); done)); done))))
        | (refine AWL.guard2 rfl rfl rfl rfl rfl rfl ?_ ?_ <;> (intro hc; (try simp only [Bool.not_true, Bool.not_false] at hc); first | (cases hc; done) | ((try simp only [hc]); (try simp only [beq_iff_eq, bne_iff_ne, decide_eq_true_eq, decide_eq_false_iff_not, beq_eq_false_iff_ne, bne_eq_false_iff_eq, ne_eq, Bool.not_eq_true, Bool.not_eq_false, Bool.not_eq_eq_eq_not, Bool.not_true, Bool.not_false, Decidable.not_not, Int.not_lt, Int.not_le] at hc); (try (exfalso; omega)); (try (guard_hyp hc : True; clear hc)))))
        | (refine AWL.guard2 rfl rfl rfl rfl rfl rfl (fun hc => ?_) ?_; (cases hc; done))
        | (refine AW.calm false [] [] hmix (by (repeat' (first | exact panOk_end | exact panOk_endM | refine panOk_then ?_ | refine panOk_block ?_))) ?_ rfl ?_; (focus (as_aux_lemma => kernel_rfl)); (try simp (disch := omega) only [NS, ints_nums, ints_nil, ints_cons, eqL_nil, eqL_cons, eqS_int, eqS_bool, eqS_str, setI_nums, setI_nums2, List.filterMap_cons, List.filterMap_nil, Option.map_some, Option.map_none, St.add, St.wm, St.wipe1, St.wipeL, callObjs, callKs, ikey, List.nil_append, List.cons_append, Nat.reduceBEq, Nat.reduceAdd, Nat.reduceMul, Int.reduceToNat, Nat.reduceSub, TY, slx, SP, e1, e2, e3, e6, e7, e8, e9, hl, hT, hT2]))
        | (refine CW.guard2 rfl rfl rfl rfl rfl rfl rfl rfl ?_ ?_ <;> (intro hc; (try simp only [Bool.not_true, Bool.not_false] at hc); first | (cases hc; done) | ((try simp only [hc]); (try simp only [beq_iff_eq, bne_iff_ne, decide_eq_true_eq, decide_eq_false_iff_not, beq_eq_false_iff_ne, bne_eq_false_iff_eq, ne_eq, Bool.not_eq_true, Bool.not_eq_false, Bool.not_eq_eq_eq_not, Bool.not_true, Bool.not_false, Decidable.not_not, Int.not_lt, Int.not_le] at hc); (try (exfalso; omega)); (try (guard_hyp hc : True; clear hc)))))
        | (refine CW.guardU rfl rfl rfl rfl rfl rfl rfl rfl ?_; (try simp (disch := omega) only [NS, ints_nums, ints_nil, ints_cons, eqL_nil, eqL_cons, eqS_int, eqS_bool, eqS_str, setI_nums, setI_nums2, List.filterMap_cons, List.filterMap_nil, Option.map_some, Option.map_none, St.add, St.wm, St.wipe1, St.wipeL, callObjs, callKs, ikey, List.nil_append, List.cons_append, Nat.reduceBEq, Nat.reduceAdd, Nat.reduceMul, Int.reduceToNat, Nat.reduceSub, TY, slx, SP, e1, e2, e3, e6, e7, e8, e9, hl, hT, hT2]))
        | refine CW.tail rfl ?_
        | (refine AWL.guardU rfl rfl rfl rfl rfl rfl ?_; (try simp (disch := omega) only [NS, ints_nums, ints_nil, ints_cons, eqL_nil, eqL_cons, eqS_int, eqS_bool, eqS_str, setI_nums, setI_nums2, List.filterMap_cons, List.filterMap_nil, Option.map_some, Option.map_none, St.add, St.wm, St.wipe1, St.wipeL, callObjs, callKs, ikey, List.nil_append, List.cons_append, Nat.reduceBEq, Nat.reduceAdd, Nat.reduceMul, Int.reduceToNat, Nat.reduceSub, TY, slx, SP, e1, e2, e3, e6, e7, e8, e9, hl, hT, hT2]))
        | (refine DQ.guardU rfl rfl rfl rfl rfl rfl rfl ?_; (try simp (disch := omega) only [NS, ints_nums, ints_nil, ints_cons, eqL_nil, eqL_cons, eqS_int, eqS_bool, eqS_str, setI_nums, setI_nums2, List.filterMap_cons, List.filterMap_nil, Option.map_some, Option.map_none, St.add, St.wm, St.wipe1, St.wipeL, callObjs, callKs, ikey, List.nil_append, List.cons_append, Nat.reduceBEq, Nat.reduceAdd, Nat.reduceMul, Int.reduceToNat, Nat.reduceSub, TY, slx, SP, e1, e2, e3, e6, e7, e8, e9, hl, hT, hT2]))
        | refine DQ.tail rfl ?_
        | (refine DQ.guard2 rfl rfl rfl rfl rfl rfl rfl ?_ ?_ <;> (intro hc; (try simp only [Bool.not_true, Bool.not_false] at hc); first | (cases hc; done) | ((try simp only [hc]); (try simp only [beq_iff_eq, bne_iff_ne, decide_eq_true_eq, decide_eq_false_iff_not, beq_eq_false_iff_ne, bne_eq_false_iff_eq, ne_eq, Bool.not_eq_true, Bool.not_eq_false, Bool.not_eq_eq_eq_not, Bool.not_true, Bool.not_false, Decidable.not_not, Int.not_lt, Int.not_le] at hc); (try (exfalso; omega)); (try (guard_hyp hc : True; clear hc)))))
        | (refine AW.cond rfl (fun hc => ?_) (fun hc => ?_) <;> first | (cases hc; done) | ((try simp only [beq_iff_eq, bne_iff_ne, decide_eq_true_eq, decide_eq_false_iff_not, beq_eq_false_iff_ne, bne_eq_false_iff_eq, ne_eq, Bool.not_eq_true, Bool.not_eq_false, Bool.not_eq_eq_eq_not, Bool.not_true, Bool.not_false, Decidable.not_not, Int.not_lt, Int.not_le] at hc); (try (exfalso; omega)); (try (guard_hyp hc : True; clear hc))))
        | (refine EndQ.mk rfl rfl rfl ?_ ?_ ?_; (focus (first | exact Or.inl rfl | exact Or.inr rfl)); (focus ((first | exact trivial | omega | (refine And.intro (by kernel_rfl) (And.intro ⟨_, (by first | exact nums_ints _ _ | rfl), (by first | exact nums_ints _ _ | rfl)⟩ (And.intro ?_ ?_)) <;> (first | rfl | assumption | (simp only [nums_length]; omega) | omega)) | (refine And.intro ?_ (And.intro ?_ ?_); (focus kernel_rfl); (focus kernel_rfl); (focus kernel_rfl)) | ((show newKs _ _ _ = true); kernel_rfl) | ((show FitV _ _ _ _ _ _); (repeat' (first | exact trivial | exact Or.inr (Or.inl rfl) | exact Or.inl rfl | exact Or.inr (Or.inr rfl) | refine And.intro ?_ ?_)); done) | exact ld_nums i3 _ _ (by first | assumption | omega | (simp only [List.length_append]; omega)) | exact ld_nums i5 _ _ (by first | assumption | omega | (simp only [List.length_append]; omega)) | exact ld_nums i24 _ _ (by first | assumption | omega | (simp only [List.length_append]; omega)) | exact at_nums i5 _ _ (by first | assumption | omega) | (show _ ≤ _; omega) | (simp only [List.length_take, List.length_drop, List.length_append, List.length_cons, List.length_nil]; omega) | ((repeat' (first | exact trivial | exact rfl | exact Nat.le_of_ble_eq_true rfl | refine And.intro ?_ ?_ | fail)); done) | ((try simp (disch := omega) only [NS, ints_nums, ints_nil, ints_cons, eqL_nil, eqL_cons, eqS_int, eqS_bool, eqS_str, setI_nums, setI_nums2, List.filterMap_cons, List.filterMap_nil, Option.map_some, Option.map_none, St.add, St.wm, St.wipe1, St.wipeL, callObjs, callKs, ikey, List.nil_append, List.cons_append, Nat.reduceBEq, Nat.reduceAdd, Nat.reduceMul, Int.reduceToNat, Nat.reduceSub, TY, slx, SP, e1, e2, e3, e6, e7, e8, e9, hl, hT, hT2]); (repeat' (first | exact trivial | exact rfl | exact ⟨_, _, rfl⟩ | exact ⟨_, rfl⟩ | exact Nat.le_of_ble_eq_true rfl | exact Nat.zero_lt_succ _ | omega | (simp only [nums_length]; omega) | refine And.intro ?_ ?_ | fail)); done)); done)); (try simp (disch := omega) only [NS, ints_nums, ints_nil, ints_cons, eqL_nil, eqL_cons, eqS_int, eqS_bool, eqS_str, setI_nums, setI_nums2, List.filterMap_cons, List.filterMap_nil, Option.map_some, Option.map_none, St.add, St.wm, St.wipe1, St.wipeL, callObjs, callKs, ikey, List.nil_append, List.cons_append, Nat.reduceBEq, Nat.reduceAdd, Nat.reduceMul, Int.reduceToNat, Nat.reduceSub, TY, slx, SP, e1, e2, e3, e6, e7, e8, e9, hl, hT, hT2]))
        | fail)
      all_goals try simp (disch := omega) only [NS, ints_nums, ints_nil, ints_cons, eqL_nil, eqL_cons, eqS_int, eqS_bool, eqS_str, setI_nums, setI_nums2, List.filterMap_cons, List.filterMap_nil, Option.map_some, Option.map_none, St.add, St.wm, St.wipe1, St.wipeL, callObjs, callKs, ikey, List.nil_append, List.cons_append, Nat.reduceBEq, Nat.reduceAdd, Nat.reduceMul, Int.reduceToNat, Nat.reduceSub, TY, slx, SP, e1, e2, e3, e6, e7, e8, e9, hl, hT, hT2]
      all_goals first
        | exact ⟨(m % 7).toNat - (i + 1), by omega, i + 1, _, _, rfl, by omega, rfl, by omega, rfl⟩
        | exact ⟨congrArg V.bool (decide_eq_true (by omega)), trivial⟩ | exact ⟨trivial, trivial⟩ | exact ⟨rfl, trivial⟩ | (exfalso; omega) | trace_state)
end Go.Proofs.Yticidhkilfkgbaa
