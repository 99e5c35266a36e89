/- the document's Of. -/
import Derived.Test.YtopdealfmajbhaaV4
import Derived.Test.YtopdealfmajbhaaRSet
namespace Go.Proofs.Ytopdealfmajbhaa
set_option linter.unusedSimpArgs false
set_option linter.unusedVariables false
open Go Go.Abs
attribute [local irreducible] AW AWL AC FW CW CWr IntKind.wrap

def S12 (xs v : List Int) (w k : Int) : St := { n := 27, slots := [(0, .int .i64 w), (1, .view xs.length 1 (nums .u64 xs)), (4, .ptr 4 0), (5, .ptr 5 0), (6, .int .i64 k)], mem := [(4, ⟨true, nums .u8 zero16⟩), (5, ⟨true, nums .u8 v⟩)] }
theorem set_out (v : List Int) (w i x : Int) (h : ¬(0 ≤ i ∧ i < lanes w)) : set v w i x = v := by unfold set; rw [if_neg h]
theorem sets_stop (w : Int) (xs : List Int) (k : Nat) (v : List Int) (i : Nat) (h : lanes w ≤ i + k) : sets w v i xs = sets w v i (xs.take k) := by
  induction k generalizing xs v i with
  | zero =>
    rw [List.take_zero, sets]
    induction xs generalizing v i with
    | nil => rfl
    | cons x xs ih => rw [sets, set_out _ _ _ _ (by omega)]; exact ih _ _ (by omega)
  | succ k ih =>
    cases xs with
    | nil => rfl
    | cons x xs => rw [List.take_succ_cons, sets, sets]; exact ih _ _ _ (by omega)
set_option maxHeartbeats 1600000 in
theorem rof_ok (w : Int) (xs : List Int) (hx : ∀ x ∈ xs, 0 ≤ x ∧ x < 2 ^ 64) (hlen : xs.length ≤ 1000000000000) : AC Try.prog 12 [.int .i64 w, .view xs.length 1 (nums .u64 xs)] (fun r m => r = .fagg (nums .u8 (of w xs)) ∧ m = []) := by
  have hL : lanes w ≤ 16 := by unfold lanes; split; omega; split; omega; split; omega; split <;> omega
  have hof : of w xs = sets w zero16 0 (xs.take 16) := by
    unfold of
    rw [sets_stop w (xs.take 16) (lanes w) zero16 0 (by omega), List.take_take, Nat.min_eq_left hL]
  refine AC.enter Try.func12 rfl (Nat.le_of_ble_eq_true rfl) ?_
  simp only [Try.f12]
  repeat' (first
    | refine AW.seq ?_
    | refine AW.block ?_
    | refine AW.region ?_
    | (refine AW.skip ?_; (try simp only [thenQ, blockQ, ↓reduceIte, Nat.reduceEqDiff]))
    | (refine AW.ret ?_; (try simp only [thenQ, blockQ, ↓reduceIte, Nat.reduceEqDiff]))
    | (refine AW.exit ?_; (try simp only [thenQ, blockQ, ↓reduceIte, Nat.reduceEqDiff]))
    | (refine AWL.nil ?_; (try simp only [thenQ, blockQ, ↓reduceIte, Nat.reduceEqDiff]))
    | (refine DQ.nil ?_; (try simp only [thenQ, blockQ, ↓reduceIte, Nat.reduceEqDiff]))
    | refine FW.nil ?_
    | refine FW.pass rfl rfl ?_
    | refine FW.go rfl ?_
    | (refine CW.nil ?_; (try simp only [thenQ, blockQ, ↓reduceIte, Nat.reduceEqDiff]))
    | refine CW.skip rfl rfl ?_
    | refine CW.step rfl rfl rfl rfl rfl ?_
    | ((first
      | (refine AWL.boxF (t := 25) rfl rfl rfl rfl rfl ?_)
      | (refine AWL.allocF (t := 25) rfl rfl rfl rfl rfl rfl ?_)
      | (refine CWr.allocF (t := 25) rfl rfl rfl ?_ ?_)
      | (refine AWL.op (sl := SL) rfl rfl ?_ ?_)
      | (refine DQ.op rfl rfl rfl rfl rfl ?_ ?_)
      | (refine DQ.yes rfl ?_ ?_)
      | (refine DQ.step rfl rfl rfl rfl (QStep.assign rfl) ?_)
      | (refine FW.float rfl rfl rfl rfl rfl ?_)
      | (refine CWr.op rfl ?_ ?_ ?_)
      | (refine CWr.assign rfl ?_ ?_)
      | (refine CWr.alloc rfl rfl rfl rfl ?_)
      | (refine CWr.build rfl rfl rfl rfl ?_ rfl rfl rfl ?_)
      | (refine AWL.frzA rfl rfl ?_)
      | (refine AWL.callV (f := 23) rfl rfl rfl rfl ?_ (Nat.le_of_ble_eq_true rfl) rfl (rset_ok _ hs1 hs2 _ _ _ hx1 hx2) ?_; (focus kernel_rfl))
      | (refine AWL.call (f := 23) rfl rfl rfl ?_ rfl (Nat.le_of_ble_eq_true rfl) rfl (rset_ok _ hs1 hs2 _ _ _ hx1 hx2) ?_; (focus kernel_rfl))
      | (refine CWr.call (f := 23) rfl ?_ rfl (rset_ok _ hs1 hs2 _ _ _ hx1 hx2) (fun _ _ h => h) ?_ ?_ ?_; (focus kernel_rfl))
      | (refine DQ.step rfl rfl rfl rfl (QStep.call (f := 23) rfl ?_ rfl (rset_ok _ hs1 hs2 _ _ _ hx1 hx2) (fun _ _ h => h) (fun _ => rfl)) ?_; (focus kernel_rfl))
      | (refine DQ.yesC (QStep.call (f := 23) rfl ?_ rfl (rset_ok _ hs1 hs2 _ _ _ hx1 hx2) (fun _ _ h => h) (fun _ => rfl)) ?_; (focus kernel_rfl))
      | fail) <;> (first | ((first | show AWL _ _ _ _ _ | show DQ _ _ _ _ _ _ | show AW _ _ _ _ | show FW _ _ _ _ _ _ _ _ _ _ | show CW _ _ _ _ _ _ _ _ _ _ _ _ | (rintro _ _ ⟨rfl, rfl⟩; (try refine And.intro rfl ?_))); (try simp (disch := omega) only [NS, ints_nums, ints_nil, ints_cons, eqL_nil, eqL_cons, eqS_int, eqS_bool, eqS_str, setI_nums, setI_nums2, List.filterMap_cons, List.filterMap_nil, Option.map_some, Option.map_none, St.add, St.wm, St.wipe1, St.wipeL, callObjs, callKs, ikey, List.nil_append, List.cons_append, Nat.reduceBEq, Nat.reduceAdd, Nat.reduceMul, Int.reduceToNat, Nat.reduceSub, TY, slx, take16, drop16, dz, nums_length, S12])) | (focus ((first | exact trivial | omega | (refine And.intro (by kernel_rfl) (And.intro ⟨_, (by first | exact nums_ints _ _ | rfl), (by first | exact nums_ints _ _ | rfl)⟩ (And.intro ?_ ?_)) <;> (first | rfl | assumption | (simp only [nums_length]; omega) | omega)) | (refine And.intro ?_ (And.intro ?_ ?_); (focus kernel_rfl); (focus kernel_rfl); (focus kernel_rfl)) | ((show newKs _ _ _ = true); kernel_rfl) | ((show FitV _ _ _ _ _ _); (repeat' (first | exact trivial | exact Or.inr (Or.inl rfl) | exact Or.inl rfl | exact Or.inr (Or.inr rfl) | refine And.intro ?_ ?_)); done) | exact ld_nums i3 _ _ (by first | assumption | omega | (simp only [List.length_append]; omega)) | exact ld_nums i29 _ _ (by first | assumption | omega | (simp only [List.length_append]; omega)) | exact ld_nums i5 _ _ (by first | assumption | omega | (simp only [List.length_append]; omega)) | assumption | exact at_nums i3 _ _ (by first | assumption | omega | (simp only [List.length_append]; omega)) | exact at_nums i29 _ _ (by first | assumption | omega | (simp only [List.length_append]; omega)) | exact at_nums i5 _ _ (by first | assumption | omega | (simp only [List.length_append]; omega)) | (show _ ≤ _; omega) | (simp only [List.length_take, List.length_drop, List.length_append, List.length_cons, List.length_nil]; omega) | ((repeat' (first | exact trivial | exact rfl | exact Nat.le_of_ble_eq_true rfl | refine And.intro ?_ ?_ | fail)); done) | ((try simp (disch := omega) only [NS, ints_nums, ints_nil, ints_cons, eqL_nil, eqL_cons, eqS_int, eqS_bool, eqS_str, setI_nums, setI_nums2, List.filterMap_cons, List.filterMap_nil, Option.map_some, Option.map_none, St.add, St.wm, St.wipe1, St.wipeL, callObjs, callKs, ikey, List.nil_append, List.cons_append, Nat.reduceBEq, Nat.reduceAdd, Nat.reduceMul, Int.reduceToNat, Nat.reduceSub, TY, slx, take16, drop16, dz, nums_length, S12]); (repeat' (first | exact trivial | exact rfl | exact ⟨_, _, rfl⟩ | exact ⟨_, rfl⟩ | exact Nat.le_of_ble_eq_true rfl | exact Nat.zero_lt_succ _ | omega | (simp only [nums_length, toB_len] at *; omega) | refine And.intro ?_ ?_ | fail)); done)); done))))
    | (refine AWL.guard2 rfl rfl rfl rfl rfl rfl ?_ ?_ <;> (intro hc; (try simp only [Bool.not_true, Bool.not_false] at hc); first | (cases hc; done) | ((try simp only [hc]); (try simp only [beq_iff_eq, bne_iff_ne, decide_eq_true_eq, decide_eq_false_iff_not, beq_eq_false_iff_ne, bne_eq_false_iff_eq, ne_eq, Bool.not_eq_true, Bool.not_eq_false, Bool.not_eq_eq_eq_not, Bool.not_true, Bool.not_false, Decidable.not_not, Int.not_lt, Int.not_le] at hc); (try (exfalso; omega)); (try (guard_hyp hc : True; clear hc)))))
    | (refine AWL.guard2 rfl rfl rfl rfl rfl rfl (fun hc => ?_) ?_; (cases hc; done))
    | (refine AW.calm false [] [] hmix (by (repeat' (first | exact panOk_end | exact panOk_endM | refine panOk_then ?_ | refine panOk_block ?_))) ?_ rfl ?_; (focus (as_aux_lemma => kernel_rfl)); (try simp (disch := omega) only [NS, ints_nums, ints_nil, ints_cons, eqL_nil, eqL_cons, eqS_int, eqS_bool, eqS_str, setI_nums, setI_nums2, List.filterMap_cons, List.filterMap_nil, Option.map_some, Option.map_none, St.add, St.wm, St.wipe1, St.wipeL, callObjs, callKs, ikey, List.nil_append, List.cons_append, Nat.reduceBEq, Nat.reduceAdd, Nat.reduceMul, Int.reduceToNat, Nat.reduceSub, TY, slx, take16, drop16, dz, nums_length, S12]))
    | (refine CW.guard2 rfl rfl rfl rfl rfl rfl rfl rfl ?_ ?_ <;> (intro hc; (try simp only [Bool.not_true, Bool.not_false] at hc); first | (cases hc; done) | ((try simp only [hc]); (try simp only [beq_iff_eq, bne_iff_ne, decide_eq_true_eq, decide_eq_false_iff_not, beq_eq_false_iff_ne, bne_eq_false_iff_eq, ne_eq, Bool.not_eq_true, Bool.not_eq_false, Bool.not_eq_eq_eq_not, Bool.not_true, Bool.not_false, Decidable.not_not, Int.not_lt, Int.not_le] at hc); (try (exfalso; omega)); (try (guard_hyp hc : True; clear hc)))))
    | (refine CW.guardU rfl rfl rfl rfl rfl rfl rfl rfl ?_; (try simp (disch := omega) only [NS, ints_nums, ints_nil, ints_cons, eqL_nil, eqL_cons, eqS_int, eqS_bool, eqS_str, setI_nums, setI_nums2, List.filterMap_cons, List.filterMap_nil, Option.map_some, Option.map_none, St.add, St.wm, St.wipe1, St.wipeL, callObjs, callKs, ikey, List.nil_append, List.cons_append, Nat.reduceBEq, Nat.reduceAdd, Nat.reduceMul, Int.reduceToNat, Nat.reduceSub, TY, slx, take16, drop16, dz, nums_length, S12]))
    | refine CW.tail rfl ?_
    | (refine AWL.guardU rfl rfl rfl rfl rfl rfl ?_; (try simp (disch := omega) only [NS, ints_nums, ints_nil, ints_cons, eqL_nil, eqL_cons, eqS_int, eqS_bool, eqS_str, setI_nums, setI_nums2, List.filterMap_cons, List.filterMap_nil, Option.map_some, Option.map_none, St.add, St.wm, St.wipe1, St.wipeL, callObjs, callKs, ikey, List.nil_append, List.cons_append, Nat.reduceBEq, Nat.reduceAdd, Nat.reduceMul, Int.reduceToNat, Nat.reduceSub, TY, slx, take16, drop16, dz, nums_length, S12]))
    | (refine DQ.guardU rfl rfl rfl rfl rfl rfl rfl ?_; (try simp (disch := omega) only [NS, ints_nums, ints_nil, ints_cons, eqL_nil, eqL_cons, eqS_int, eqS_bool, eqS_str, setI_nums, setI_nums2, List.filterMap_cons, List.filterMap_nil, Option.map_some, Option.map_none, St.add, St.wm, St.wipe1, St.wipeL, callObjs, callKs, ikey, List.nil_append, List.cons_append, Nat.reduceBEq, Nat.reduceAdd, Nat.reduceMul, Int.reduceToNat, Nat.reduceSub, TY, slx, take16, drop16, dz, nums_length, S12]))
    | refine DQ.tail rfl ?_
    | (refine DQ.guard2 rfl rfl rfl rfl rfl rfl rfl ?_ ?_ <;> (intro hc; (try simp only [Bool.not_true, Bool.not_false] at hc); first | (cases hc; done) | ((try simp only [hc]); (try simp only [beq_iff_eq, bne_iff_ne, decide_eq_true_eq, decide_eq_false_iff_not, beq_eq_false_iff_ne, bne_eq_false_iff_eq, ne_eq, Bool.not_eq_true, Bool.not_eq_false, Bool.not_eq_eq_eq_not, Bool.not_true, Bool.not_false, Decidable.not_not, Int.not_lt, Int.not_le] at hc); (try (exfalso; omega)); (try (guard_hyp hc : True; clear hc)))))
    | (refine AW.cond rfl (fun hc => ?_) (fun hc => ?_) <;> first | (cases hc; done) | ((try simp only [beq_iff_eq, bne_iff_ne, decide_eq_true_eq, decide_eq_false_iff_not, beq_eq_false_iff_ne, bne_eq_false_iff_eq, ne_eq, Bool.not_eq_true, Bool.not_eq_false, Bool.not_eq_eq_eq_not, Bool.not_true, Bool.not_false, Decidable.not_not, Int.not_lt, Int.not_le] at hc); (try (exfalso; omega)); (try (guard_hyp hc : True; clear hc))))
    | (refine EndQ.mk rfl rfl rfl ?_ ?_ ?_; (focus (first | exact Or.inl rfl | exact Or.inr rfl)); (focus ((first | exact trivial | omega | (refine And.intro (by kernel_rfl) (And.intro ⟨_, (by first | exact nums_ints _ _ | rfl), (by first | exact nums_ints _ _ | rfl)⟩ (And.intro ?_ ?_)) <;> (first | rfl | assumption | (simp only [nums_length]; omega) | omega)) | (refine And.intro ?_ (And.intro ?_ ?_); (focus kernel_rfl); (focus kernel_rfl); (focus kernel_rfl)) | ((show newKs _ _ _ = true); kernel_rfl) | ((show FitV _ _ _ _ _ _); (repeat' (first | exact trivial | exact Or.inr (Or.inl rfl) | exact Or.inl rfl | exact Or.inr (Or.inr rfl) | refine And.intro ?_ ?_)); done) | exact ld_nums i3 _ _ (by first | assumption | omega | (simp only [List.length_append]; omega)) | exact ld_nums i29 _ _ (by first | assumption | omega | (simp only [List.length_append]; omega)) | exact ld_nums i5 _ _ (by first | assumption | omega | (simp only [List.length_append]; omega)) | assumption | exact at_nums i3 _ _ (by first | assumption | omega | (simp only [List.length_append]; omega)) | exact at_nums i29 _ _ (by first | assumption | omega | (simp only [List.length_append]; omega)) | exact at_nums i5 _ _ (by first | assumption | omega | (simp only [List.length_append]; omega)) | (show _ ≤ _; omega) | (simp only [List.length_take, List.length_drop, List.length_append, List.length_cons, List.length_nil]; omega) | ((repeat' (first | exact trivial | exact rfl | exact Nat.le_of_ble_eq_true rfl | refine And.intro ?_ ?_ | fail)); done) | ((try simp (disch := omega) only [NS, ints_nums, ints_nil, ints_cons, eqL_nil, eqL_cons, eqS_int, eqS_bool, eqS_str, setI_nums, setI_nums2, List.filterMap_cons, List.filterMap_nil, Option.map_some, Option.map_none, St.add, St.wm, St.wipe1, St.wipeL, callObjs, callKs, ikey, List.nil_append, List.cons_append, Nat.reduceBEq, Nat.reduceAdd, Nat.reduceMul, Int.reduceToNat, Nat.reduceSub, TY, slx, take16, drop16, dz, nums_length, S12]); (repeat' (first | exact trivial | exact rfl | exact ⟨_, _, rfl⟩ | exact ⟨_, rfl⟩ | exact Nat.le_of_ble_eq_true rfl | exact Nat.zero_lt_succ _ | omega | (simp only [nums_length, toB_len] at *; omega) | refine And.intro ?_ ?_ | fail)); done)); done)); (try simp (disch := omega) only [NS, ints_nums, ints_nil, ints_cons, eqL_nil, eqL_cons, eqS_int, eqS_bool, eqS_str, setI_nums, setI_nums2, List.filterMap_cons, List.filterMap_nil, Option.map_some, Option.map_none, St.add, St.wm, St.wipe1, St.wipeL, callObjs, callKs, ikey, List.nil_append, List.cons_append, Nat.reduceBEq, Nat.reduceAdd, Nat.reduceMul, Int.reduceToNat, Nat.reduceSub, TY, slx, take16, drop16, dz, nums_length, S12]))
    | fail)
  refine AW.loop [0, 1, 4, 5, 6] [4, 5] (fun m st => ∃ k : Nat, st = S12 xs (sets w zero16 0 (xs.take k)) w k ∧ k ≤ xs.length ∧ k ≤ 16 ∧ m = 16 - k) ?_ ?_
  · exact ⟨_, 0, rfl, Nat.zero_le _, Nat.zero_le _, rfl⟩
  · rintro m st ⟨k, rfl, hk, hk16, rfl⟩
    have hs := sets_ok w (xs.take k) zero16 0 zero_ok.1 zero_ok.2
    have hs1 := hs.1
    have hs2 := hs.2
    have e5 : IntKind.i64.wrap ((k : Int) + 1) = k + 1 := wrap64_id _ (by omega) (by omega)
    by_cases hkn : k < xs.length ∧ k < 16
    · obtain ⟨hkn, hk17⟩ := hkn
      have e7 : sets w zero16 0 (xs.take (k + 1)) = set (sets w zero16 0 (xs.take k)) w k (xs.getD k 0) := by
        rw [take_succ_getD (by omega), sets_snoc, List.length_take]
        congr 1; omega
      have hx1 := (hx _ (getD_mem (l := xs) (k := k) (by omega))).1
      have hx2 := (hx _ (getD_mem (l := xs) (k := k) (by omega))).2
      have hl2 := (set_ok w k (xs.getD k 0) hs.1 hs.2).1
      repeat' (first
        | refine AW.seq ?_
        | refine AW.block ?_
        | refine AW.region ?_
        | (refine AW.skip ?_; (try simp only [thenQ, blockQ, ↓reduceIte, Nat.reduceEqDiff]))
        | (refine AW.ret ?_; (try simp only [thenQ, blockQ, ↓reduceIte, Nat.reduceEqDiff]))
        | (refine AW.exit ?_; (try simp only [thenQ, blockQ, ↓reduceIte, Nat.reduceEqDiff]))
        | (refine AWL.nil ?_; (try simp only [thenQ, blockQ, ↓reduceIte, Nat.reduceEqDiff]))
        | (refine DQ.nil ?_; (try simp only [thenQ, blockQ, ↓reduceIte, Nat.reduceEqDiff]))
        | refine FW.nil ?_
        | refine FW.pass rfl rfl ?_
        | refine FW.go rfl ?_
        | (refine CW.nil ?_; (try simp only [thenQ, blockQ, ↓reduceIte, Nat.reduceEqDiff]))
        | refine CW.skip rfl rfl ?_
        | refine CW.step rfl rfl rfl rfl rfl ?_
        | ((first
          | (refine AWL.boxF (t := 25) rfl rfl rfl rfl rfl ?_)
          | (refine AWL.allocF (t := 25) rfl rfl rfl rfl rfl rfl ?_)
          | (refine CWr.allocF (t := 25) rfl rfl rfl ?_ ?_)
          | (refine AWL.op (sl := SL) rfl rfl ?_ ?_)
          | (refine DQ.op rfl rfl rfl rfl rfl ?_ ?_)
          | (refine DQ.yes rfl ?_ ?_)
          | (refine DQ.step rfl rfl rfl rfl (QStep.assign rfl) ?_)
          | (refine FW.float rfl rfl rfl rfl rfl ?_)
          | (refine CWr.op rfl ?_ ?_ ?_)
          | (refine CWr.assign rfl ?_ ?_)
          | (refine CWr.alloc rfl rfl rfl rfl ?_)
          | (refine CWr.build rfl rfl rfl rfl ?_ rfl rfl rfl ?_)
          | (refine AWL.frzA rfl rfl ?_)
          | (refine AWL.callV (f := 23) rfl rfl rfl rfl ?_ (Nat.le_of_ble_eq_true rfl) rfl (rset_ok _ hs1 hs2 _ _ _ hx1 hx2) ?_; (focus kernel_rfl))
          | (refine AWL.call (f := 23) rfl rfl rfl ?_ rfl (Nat.le_of_ble_eq_true rfl) rfl (rset_ok _ hs1 hs2 _ _ _ hx1 hx2) ?_; (focus kernel_rfl))
          | (refine CWr.call (f := 23) rfl ?_ rfl (rset_ok _ hs1 hs2 _ _ _ hx1 hx2) (fun _ _ h => h) ?_ ?_ ?_; (focus kernel_rfl))
          | (refine DQ.step rfl rfl rfl rfl (QStep.call (f := 23) rfl ?_ rfl (rset_ok _ hs1 hs2 _ _ _ hx1 hx2) (fun _ _ h => h) (fun _ => rfl)) ?_; (focus kernel_rfl))
          | (refine DQ.yesC (QStep.call (f := 23) rfl ?_ rfl (rset_ok _ hs1 hs2 _ _ _ hx1 hx2) (fun _ _ h => h) (fun _ => rfl)) ?_; (focus kernel_rfl))
          | fail) <;> (first | ((first | show AWL _ _ _ _ _ | show DQ _ _ _ _ _ _ | show AW _ _ _ _ | show FW _ _ _ _ _ _ _ _ _ _ | show CW _ _ _ _ _ _ _ _ _ _ _ _ | (rintro _ _ ⟨rfl, rfl⟩; (try refine And.intro rfl ?_))); (try simp (disch := omega) only [NS, ints_nums, ints_nil, ints_cons, eqL_nil, eqL_cons, eqS_int, eqS_bool, eqS_str, setI_nums, setI_nums2, List.filterMap_cons, List.filterMap_nil, Option.map_some, Option.map_none, St.add, St.wm, St.wipe1, St.wipeL, callObjs, callKs, ikey, List.nil_append, List.cons_append, Nat.reduceBEq, Nat.reduceAdd, Nat.reduceMul, Int.reduceToNat, Nat.reduceSub, TY, slx, take16, drop16, dz, nums_length, S12, e5, hs1, hl2])) | (focus ((first | exact trivial | omega | (refine And.intro (by kernel_rfl) (And.intro ⟨_, (by first | exact nums_ints _ _ | rfl), (by first | exact nums_ints _ _ | rfl)⟩ (And.intro ?_ ?_)) <;> (first | rfl | assumption | (simp only [nums_length]; omega) | omega)) | (refine And.intro ?_ (And.intro ?_ ?_); (focus kernel_rfl); (focus kernel_rfl); (focus kernel_rfl)) | ((show newKs _ _ _ = true); kernel_rfl) | ((show FitV _ _ _ _ _ _); (repeat' (first | exact trivial | exact Or.inr (Or.inl rfl) | exact Or.inl rfl | exact Or.inr (Or.inr rfl) | refine And.intro ?_ ?_)); done) | exact ld_nums i3 _ _ (by first | assumption | omega | (simp only [List.length_append]; omega)) | exact ld_nums i29 _ _ (by first | assumption | omega | (simp only [List.length_append]; omega)) | exact ld_nums i5 _ _ (by first | assumption | omega | (simp only [List.length_append]; omega)) | assumption | exact at_nums i3 _ _ (by first | assumption | omega | (simp only [List.length_append]; omega)) | exact at_nums i29 _ _ (by first | assumption | omega | (simp only [List.length_append]; omega)) | exact at_nums i5 _ _ (by first | assumption | omega | (simp only [List.length_append]; omega)) | (show _ ≤ _; omega) | (simp only [List.length_take, List.length_drop, List.length_append, List.length_cons, List.length_nil]; omega) | ((repeat' (first | exact trivial | exact rfl | exact Nat.le_of_ble_eq_true rfl | refine And.intro ?_ ?_ | fail)); done) | ((try simp (disch := omega) only [NS, ints_nums, ints_nil, ints_cons, eqL_nil, eqL_cons, eqS_int, eqS_bool, eqS_str, setI_nums, setI_nums2, List.filterMap_cons, List.filterMap_nil, Option.map_some, Option.map_none, St.add, St.wm, St.wipe1, St.wipeL, callObjs, callKs, ikey, List.nil_append, List.cons_append, Nat.reduceBEq, Nat.reduceAdd, Nat.reduceMul, Int.reduceToNat, Nat.reduceSub, TY, slx, take16, drop16, dz, nums_length, S12, e5, hs1, hl2]); (repeat' (first | exact trivial | exact rfl | exact ⟨_, _, rfl⟩ | exact ⟨_, rfl⟩ | exact Nat.le_of_ble_eq_true rfl | exact Nat.zero_lt_succ _ | omega | (simp only [nums_length, toB_len] at *; omega) | refine And.intro ?_ ?_ | fail)); done)); done))))
        | (refine AWL.guard2 rfl rfl rfl rfl rfl rfl ?_ ?_ <;> (intro hc; (try simp only [Bool.not_true, Bool.not_false] at hc); first | (cases hc; done) | ((try simp only [hc]); (try simp only [beq_iff_eq, bne_iff_ne, decide_eq_true_eq, decide_eq_false_iff_not, beq_eq_false_iff_ne, bne_eq_false_iff_eq, ne_eq, Bool.not_eq_true, Bool.not_eq_false, Bool.not_eq_eq_eq_not, Bool.not_true, Bool.not_false, Decidable.not_not, Int.not_lt, Int.not_le] at hc); (try (exfalso; omega)); (try (guard_hyp hc : True; clear hc)))))
        | (refine AWL.guard2 rfl rfl rfl rfl rfl rfl (fun hc => ?_) ?_; (cases hc; done))
        | (refine AW.calm false [] [] hmix (by (repeat' (first | exact panOk_end | exact panOk_endM | refine panOk_then ?_ | refine panOk_block ?_))) ?_ rfl ?_; (focus (as_aux_lemma => kernel_rfl)); (try simp (disch := omega) only [NS, ints_nums, ints_nil, ints_cons, eqL_nil, eqL_cons, eqS_int, eqS_bool, eqS_str, setI_nums, setI_nums2, List.filterMap_cons, List.filterMap_nil, Option.map_some, Option.map_none, St.add, St.wm, St.wipe1, St.wipeL, callObjs, callKs, ikey, List.nil_append, List.cons_append, Nat.reduceBEq, Nat.reduceAdd, Nat.reduceMul, Int.reduceToNat, Nat.reduceSub, TY, slx, take16, drop16, dz, nums_length, S12, e5, hs1, hl2]))
        | (refine CW.guard2 rfl rfl rfl rfl rfl rfl rfl rfl ?_ ?_ <;> (intro hc; (try simp only [Bool.not_true, Bool.not_false] at hc); first | (cases hc; done) | ((try simp only [hc]); (try simp only [beq_iff_eq, bne_iff_ne, decide_eq_true_eq, decide_eq_false_iff_not, beq_eq_false_iff_ne, bne_eq_false_iff_eq, ne_eq, Bool.not_eq_true, Bool.not_eq_false, Bool.not_eq_eq_eq_not, Bool.not_true, Bool.not_false, Decidable.not_not, Int.not_lt, Int.not_le] at hc); (try (exfalso; omega)); (try (guard_hyp hc : True; clear hc)))))
        | (refine CW.guardU rfl rfl rfl rfl rfl rfl rfl rfl ?_; (try simp (disch := omega) only [NS, ints_nums, ints_nil, ints_cons, eqL_nil, eqL_cons, eqS_int, eqS_bool, eqS_str, setI_nums, setI_nums2, List.filterMap_cons, List.filterMap_nil, Option.map_some, Option.map_none, St.add, St.wm, St.wipe1, St.wipeL, callObjs, callKs, ikey, List.nil_append, List.cons_append, Nat.reduceBEq, Nat.reduceAdd, Nat.reduceMul, Int.reduceToNat, Nat.reduceSub, TY, slx, take16, drop16, dz, nums_length, S12, e5, hs1, hl2]))
        | refine CW.tail rfl ?_
        | (refine AWL.guardU rfl rfl rfl rfl rfl rfl ?_; (try simp (disch := omega) only [NS, ints_nums, ints_nil, ints_cons, eqL_nil, eqL_cons, eqS_int, eqS_bool, eqS_str, setI_nums, setI_nums2, List.filterMap_cons, List.filterMap_nil, Option.map_some, Option.map_none, St.add, St.wm, St.wipe1, St.wipeL, callObjs, callKs, ikey, List.nil_append, List.cons_append, Nat.reduceBEq, Nat.reduceAdd, Nat.reduceMul, Int.reduceToNat, Nat.reduceSub, TY, slx, take16, drop16, dz, nums_length, S12, e5, hs1, hl2]))
        | (refine DQ.guardU rfl rfl rfl rfl rfl rfl rfl ?_; (try simp (disch := omega) only [NS, ints_nums, ints_nil, ints_cons, eqL_nil, eqL_cons, eqS_int, eqS_bool, eqS_str, setI_nums, setI_nums2, List.filterMap_cons, List.filterMap_nil, Option.map_some, Option.map_none, St.add, St.wm, St.wipe1, St.wipeL, callObjs, callKs, ikey, List.nil_append, List.cons_append, Nat.reduceBEq, Nat.reduceAdd, Nat.reduceMul, Int.reduceToNat, Nat.reduceSub, TY, slx, take16, drop16, dz, nums_length, S12, e5, hs1, hl2]))
        | refine DQ.tail rfl ?_
        | (refine DQ.guard2 rfl rfl rfl rfl rfl rfl rfl ?_ ?_ <;> (intro hc; (try simp only [Bool.not_true, Bool.not_false] at hc); first | (cases hc; done) | ((try simp only [hc]); (try simp only [beq_iff_eq, bne_iff_ne, decide_eq_true_eq, decide_eq_false_iff_not, beq_eq_false_iff_ne, bne_eq_false_iff_eq, ne_eq, Bool.not_eq_true, Bool.not_eq_false, Bool.not_eq_eq_eq_not, Bool.not_true, Bool.not_false, Decidable.not_not, Int.not_lt, Int.not_le] at hc); (try (exfalso; omega)); (try (guard_hyp hc : True; clear hc)))))
        | (refine AW.cond rfl (fun hc => ?_) (fun hc => ?_) <;> first | (cases hc; done) | ((try simp only [beq_iff_eq, bne_iff_ne, decide_eq_true_eq, decide_eq_false_iff_not, beq_eq_false_iff_ne, bne_eq_false_iff_eq, ne_eq, Bool.not_eq_true, Bool.not_eq_false, Bool.not_eq_eq_eq_not, Bool.not_true, Bool.not_false, Decidable.not_not, Int.not_lt, Int.not_le] at hc); (try (exfalso; omega)); (try (guard_hyp hc : True; clear hc))))
        | (refine EndQ.mk rfl rfl rfl ?_ ?_ ?_; (focus (first | exact Or.inl rfl | exact Or.inr rfl)); (focus ((first | exact trivial | omega | (refine And.intro (by kernel_rfl) (And.intro ⟨_, (by first | exact nums_ints _ _ | rfl), (by first | exact nums_ints _ _ | rfl)⟩ (And.intro ?_ ?_)) <;> (first | rfl | assumption | (simp only [nums_length]; omega) | omega)) | (refine And.intro ?_ (And.intro ?_ ?_); (focus kernel_rfl); (focus kernel_rfl); (focus kernel_rfl)) | ((show newKs _ _ _ = true); kernel_rfl) | ((show FitV _ _ _ _ _ _); (repeat' (first | exact trivial | exact Or.inr (Or.inl rfl) | exact Or.inl rfl | exact Or.inr (Or.inr rfl) | refine And.intro ?_ ?_)); done) | exact ld_nums i3 _ _ (by first | assumption | omega | (simp only [List.length_append]; omega)) | exact ld_nums i29 _ _ (by first | assumption | omega | (simp only [List.length_append]; omega)) | exact ld_nums i5 _ _ (by first | assumption | omega | (simp only [List.length_append]; omega)) | assumption | exact at_nums i3 _ _ (by first | assumption | omega | (simp only [List.length_append]; omega)) | exact at_nums i29 _ _ (by first | assumption | omega | (simp only [List.length_append]; omega)) | exact at_nums i5 _ _ (by first | assumption | omega | (simp only [List.length_append]; omega)) | (show _ ≤ _; omega) | (simp only [List.length_take, List.length_drop, List.length_append, List.length_cons, List.length_nil]; omega) | ((repeat' (first | exact trivial | exact rfl | exact Nat.le_of_ble_eq_true rfl | refine And.intro ?_ ?_ | fail)); done) | ((try simp (disch := omega) only [NS, ints_nums, ints_nil, ints_cons, eqL_nil, eqL_cons, eqS_int, eqS_bool, eqS_str, setI_nums, setI_nums2, List.filterMap_cons, List.filterMap_nil, Option.map_some, Option.map_none, St.add, St.wm, St.wipe1, St.wipeL, callObjs, callKs, ikey, List.nil_append, List.cons_append, Nat.reduceBEq, Nat.reduceAdd, Nat.reduceMul, Int.reduceToNat, Nat.reduceSub, TY, slx, take16, drop16, dz, nums_length, S12, e5, hs1, hl2]); (repeat' (first | exact trivial | exact rfl | exact ⟨_, _, rfl⟩ | exact ⟨_, rfl⟩ | exact Nat.le_of_ble_eq_true rfl | exact Nat.zero_lt_succ _ | omega | (simp only [nums_length, toB_len] at *; omega) | refine And.intro ?_ ?_ | fail)); done)); done)); (try simp (disch := omega) only [NS, ints_nums, ints_nil, ints_cons, eqL_nil, eqL_cons, eqS_int, eqS_bool, eqS_str, setI_nums, setI_nums2, List.filterMap_cons, List.filterMap_nil, Option.map_some, Option.map_none, St.add, St.wm, St.wipe1, St.wipeL, callObjs, callKs, ikey, List.nil_append, List.cons_append, Nat.reduceBEq, Nat.reduceAdd, Nat.reduceMul, Int.reduceToNat, Nat.reduceSub, TY, slx, take16, drop16, dz, nums_length, S12, e5, hs1, hl2]))
        | fail)
      all_goals try simp (disch := omega) only [NS, ints_nums, ints_nil, ints_cons, eqL_nil, eqL_cons, eqS_int, eqS_bool, eqS_str, setI_nums, setI_nums2, List.filterMap_cons, List.filterMap_nil, Option.map_some, Option.map_none, St.add, St.wm, St.wipe1, St.wipeL, callObjs, callKs, ikey, List.nil_append, List.cons_append, Nat.reduceBEq, Nat.reduceAdd, Nat.reduceMul, Int.reduceToNat, Nat.reduceSub, TY, slx, take16, drop16, dz, nums_length, S12, e5, hs1, hl2]
      all_goals first
        | exact ⟨16 - (k + 1), by omega, k + 1, by rw [e7]; rfl, by omega, by omega, rfl⟩
        | (exfalso; omega)
        | trace_state
    · have e8 : xs.take k = xs.take 16 := by
        by_cases h : k = 16
        · rw [h]
        · rw [List.take_of_length_le (by omega), List.take_of_length_le (by omega)]
      rw [e8, ← hof] at hs1 ⊢
      have hx1 : True := trivial
      have hx2 : True := trivial
      repeat' (first
        | refine AW.seq ?_
        | refine AW.block ?_
        | refine AW.region ?_
        | (refine AW.skip ?_; (try simp only [thenQ, blockQ, ↓reduceIte, Nat.reduceEqDiff]))
        | (refine AW.ret ?_; (try simp only [thenQ, blockQ, ↓reduceIte, Nat.reduceEqDiff]))
        | (refine AW.exit ?_; (try simp only [thenQ, blockQ, ↓reduceIte, Nat.reduceEqDiff]))
        | (refine AWL.nil ?_; (try simp only [thenQ, blockQ, ↓reduceIte, Nat.reduceEqDiff]))
        | (refine DQ.nil ?_; (try simp only [thenQ, blockQ, ↓reduceIte, Nat.reduceEqDiff]))
        | refine FW.nil ?_
        | refine FW.pass rfl rfl ?_
        | refine FW.go rfl ?_
        | (refine CW.nil ?_; (try simp only [thenQ, blockQ, ↓reduceIte, Nat.reduceEqDiff]))
        | refine CW.skip rfl rfl ?_
        | refine CW.step rfl rfl rfl rfl rfl ?_
        | ((first
          | (refine AWL.boxF (t := 25) rfl rfl rfl rfl rfl ?_)
          | (refine AWL.allocF (t := 25) rfl rfl rfl rfl rfl rfl ?_)
          | (refine CWr.allocF (t := 25) rfl rfl rfl ?_ ?_)
          | (refine AWL.op (sl := SL) rfl rfl ?_ ?_)
          | (refine DQ.op rfl rfl rfl rfl rfl ?_ ?_)
          | (refine DQ.yes rfl ?_ ?_)
          | (refine DQ.step rfl rfl rfl rfl (QStep.assign rfl) ?_)
          | (refine FW.float rfl rfl rfl rfl rfl ?_)
          | (refine CWr.op rfl ?_ ?_ ?_)
          | (refine CWr.assign rfl ?_ ?_)
          | (refine CWr.alloc rfl rfl rfl rfl ?_)
          | (refine CWr.build rfl rfl rfl rfl ?_ rfl rfl rfl ?_)
          | (refine AWL.frzA rfl rfl ?_)
          | (refine AWL.callV (f := 23) rfl rfl rfl rfl ?_ (Nat.le_of_ble_eq_true rfl) rfl (rset_ok _ hs1 hs2 _ _ _ hx1 hx2) ?_; (focus kernel_rfl))
          | (refine AWL.call (f := 23) rfl rfl rfl ?_ rfl (Nat.le_of_ble_eq_true rfl) rfl (rset_ok _ hs1 hs2 _ _ _ hx1 hx2) ?_; (focus kernel_rfl))
          | (refine CWr.call (f := 23) rfl ?_ rfl (rset_ok _ hs1 hs2 _ _ _ hx1 hx2) (fun _ _ h => h) ?_ ?_ ?_; (focus kernel_rfl))
          | (refine DQ.step rfl rfl rfl rfl (QStep.call (f := 23) rfl ?_ rfl (rset_ok _ hs1 hs2 _ _ _ hx1 hx2) (fun _ _ h => h) (fun _ => rfl)) ?_; (focus kernel_rfl))
          | (refine DQ.yesC (QStep.call (f := 23) rfl ?_ rfl (rset_ok _ hs1 hs2 _ _ _ hx1 hx2) (fun _ _ h => h) (fun _ => rfl)) ?_; (focus kernel_rfl))
          | fail) <;> (first | ((first | show AWL _ _ _ _ _ | show DQ _ _ _ _ _ _ | show AW _ _ _ _ | show FW _ _ _ _ _ _ _ _ _ _ | show CW _ _ _ _ _ _ _ _ _ _ _ _ | (rintro _ _ ⟨rfl, rfl⟩; (try refine And.intro rfl ?_))); (try simp (disch := omega) only [NS, ints_nums, ints_nil, ints_cons, eqL_nil, eqL_cons, eqS_int, eqS_bool, eqS_str, setI_nums, setI_nums2, List.filterMap_cons, List.filterMap_nil, Option.map_some, Option.map_none, St.add, St.wm, St.wipe1, St.wipeL, callObjs, callKs, ikey, List.nil_append, List.cons_append, Nat.reduceBEq, Nat.reduceAdd, Nat.reduceMul, Int.reduceToNat, Nat.reduceSub, TY, slx, take16, drop16, dz, nums_length, S12, hs1])) | (focus ((first | exact trivial | omega | (refine And.intro (by kernel_rfl) (And.intro ⟨_, (by first | exact nums_ints _ _ | rfl), (by first | exact nums_ints _ _ | rfl)⟩ (And.intro ?_ ?_)) <;> (first | rfl | assumption | (simp only [nums_length]; omega) | omega)) | (refine And.intro ?_ (And.intro ?_ ?_); (focus kernel_rfl); (focus kernel_rfl); (focus kernel_rfl)) | ((show newKs _ _ _ = true); kernel_rfl) | ((show FitV _ _ _ _ _ _); (repeat' (first | exact trivial | exact Or.inr (Or.inl rfl) | exact Or.inl rfl | exact Or.inr (Or.inr rfl) | refine And.intro ?_ ?_)); done) | exact ld_nums i3 _ _ (by first | assumption | omega | (simp only [List.length_append]; omega)) | exact ld_nums i29 _ _ (by first | assumption | omega | (simp only [List.length_append]; omega)) | exact ld_nums i5 _ _ (by first | assumption | omega | (simp only [List.length_append]; omega)) | assumption | exact at_nums i3 _ _ (by first | assumption | omega | (simp only [List.length_append]; omega)) | exact at_nums i29 _ _ (by first | assumption | omega | (simp only [List.length_append]; omega)) | exact at_nums i5 _ _ (by first | assumption | omega | (simp only [List.length_append]; omega)) | (show _ ≤ _; omega) | (simp only [List.length_take, List.length_drop, List.length_append, List.length_cons, List.length_nil]; omega) | ((repeat' (first | exact trivial | exact rfl | exact Nat.le_of_ble_eq_true rfl | refine And.intro ?_ ?_ | fail)); done) | ((try simp (disch := omega) only [NS, ints_nums, ints_nil, ints_cons, eqL_nil, eqL_cons, eqS_int, eqS_bool, eqS_str, setI_nums, setI_nums2, List.filterMap_cons, List.filterMap_nil, Option.map_some, Option.map_none, St.add, St.wm, St.wipe1, St.wipeL, callObjs, callKs, ikey, List.nil_append, List.cons_append, Nat.reduceBEq, Nat.reduceAdd, Nat.reduceMul, Int.reduceToNat, Nat.reduceSub, TY, slx, take16, drop16, dz, nums_length, S12, hs1]); (repeat' (first | exact trivial | exact rfl | exact ⟨_, _, rfl⟩ | exact ⟨_, rfl⟩ | exact Nat.le_of_ble_eq_true rfl | exact Nat.zero_lt_succ _ | omega | (simp only [nums_length, toB_len] at *; omega) | refine And.intro ?_ ?_ | fail)); done)); done))))
        | (refine AWL.guard2 rfl rfl rfl rfl rfl rfl ?_ ?_ <;> (intro hc; (try simp only [Bool.not_true, Bool.not_false] at hc); first | (cases hc; done) | ((try simp only [hc]); (try simp only [beq_iff_eq, bne_iff_ne, decide_eq_true_eq, decide_eq_false_iff_not, beq_eq_false_iff_ne, bne_eq_false_iff_eq, ne_eq, Bool.not_eq_true, Bool.not_eq_false, Bool.not_eq_eq_eq_not, Bool.not_true, Bool.not_false, Decidable.not_not, Int.not_lt, Int.not_le] at hc); (try (exfalso; omega)); (try (guard_hyp hc : True; clear hc)))))
        | (refine AWL.guard2 rfl rfl rfl rfl rfl rfl (fun hc => ?_) ?_; (cases hc; done))
        | (refine AW.calm false [] [] hmix (by (repeat' (first | exact panOk_end | exact panOk_endM | refine panOk_then ?_ | refine panOk_block ?_))) ?_ rfl ?_; (focus (as_aux_lemma => kernel_rfl)); (try simp (disch := omega) only [NS, ints_nums, ints_nil, ints_cons, eqL_nil, eqL_cons, eqS_int, eqS_bool, eqS_str, setI_nums, setI_nums2, List.filterMap_cons, List.filterMap_nil, Option.map_some, Option.map_none, St.add, St.wm, St.wipe1, St.wipeL, callObjs, callKs, ikey, List.nil_append, List.cons_append, Nat.reduceBEq, Nat.reduceAdd, Nat.reduceMul, Int.reduceToNat, Nat.reduceSub, TY, slx, take16, drop16, dz, nums_length, S12, hs1]))
        | (refine CW.guard2 rfl rfl rfl rfl rfl rfl rfl rfl ?_ ?_ <;> (intro hc; (try simp only [Bool.not_true, Bool.not_false] at hc); first | (cases hc; done) | ((try simp only [hc]); (try simp only [beq_iff_eq, bne_iff_ne, decide_eq_true_eq, decide_eq_false_iff_not, beq_eq_false_iff_ne, bne_eq_false_iff_eq, ne_eq, Bool.not_eq_true, Bool.not_eq_false, Bool.not_eq_eq_eq_not, Bool.not_true, Bool.not_false, Decidable.not_not, Int.not_lt, Int.not_le] at hc); (try (exfalso; omega)); (try (guard_hyp hc : True; clear hc)))))
        | (refine CW.guardU rfl rfl rfl rfl rfl rfl rfl rfl ?_; (try simp (disch := omega) only [NS, ints_nums, ints_nil, ints_cons, eqL_nil, eqL_cons, eqS_int, eqS_bool, eqS_str, setI_nums, setI_nums2, List.filterMap_cons, List.filterMap_nil, Option.map_some, Option.map_none, St.add, St.wm, St.wipe1, St.wipeL, callObjs, callKs, ikey, List.nil_append, List.cons_append, Nat.reduceBEq, Nat.reduceAdd, Nat.reduceMul, Int.reduceToNat, Nat.reduceSub, TY, slx, take16, drop16, dz, nums_length, S12, hs1]))
        | refine CW.tail rfl ?_
        | (refine AWL.guardU rfl rfl rfl rfl rfl rfl ?_; (try simp (disch := omega) only [NS, ints_nums, ints_nil, ints_cons, eqL_nil, eqL_cons, eqS_int, eqS_bool, eqS_str, setI_nums, setI_nums2, List.filterMap_cons, List.filterMap_nil, Option.map_some, Option.map_none, St.add, St.wm, St.wipe1, St.wipeL, callObjs, callKs, ikey, List.nil_append, List.cons_append, Nat.reduceBEq, Nat.reduceAdd, Nat.reduceMul, Int.reduceToNat, Nat.reduceSub, TY, slx, take16, drop16, dz, nums_length, S12, hs1]))
        | (refine DQ.guardU rfl rfl rfl rfl rfl rfl rfl ?_; (try simp (disch := omega) only [NS, ints_nums, ints_nil, ints_cons, eqL_nil, eqL_cons, eqS_int, eqS_bool, eqS_str, setI_nums, setI_nums2, List.filterMap_cons, List.filterMap_nil, Option.map_some, Option.map_none, St.add, St.wm, St.wipe1, St.wipeL, callObjs, callKs, ikey, List.nil_append, List.cons_append, Nat.reduceBEq, Nat.reduceAdd, Nat.reduceMul, Int.reduceToNat, Nat.reduceSub, TY, slx, take16, drop16, dz, nums_length, S12, hs1]))
        | refine DQ.tail rfl ?_
        | (refine DQ.guard2 rfl rfl rfl rfl rfl rfl rfl ?_ ?_ <;> (intro hc; (try simp only [Bool.not_true, Bool.not_false] at hc); first | (cases hc; done) | ((try simp only [hc]); (try simp only [beq_iff_eq, bne_iff_ne, decide_eq_true_eq, decide_eq_false_iff_not, beq_eq_false_iff_ne, bne_eq_false_iff_eq, ne_eq, Bool.not_eq_true, Bool.not_eq_false, Bool.not_eq_eq_eq_not, Bool.not_true, Bool.not_false, Decidable.not_not, Int.not_lt, Int.not_le] at hc); (try (exfalso; omega)); (try (guard_hyp hc : True; clear hc)))))
        | (refine AW.cond rfl (fun hc => ?_) (fun hc => ?_) <;> first | (cases hc; done) | ((try simp only [beq_iff_eq, bne_iff_ne, decide_eq_true_eq, decide_eq_false_iff_not, beq_eq_false_iff_ne, bne_eq_false_iff_eq, ne_eq, Bool.not_eq_true, Bool.not_eq_false, Bool.not_eq_eq_eq_not, Bool.not_true, Bool.not_false, Decidable.not_not, Int.not_lt, Int.not_le] at hc); (try (exfalso; omega)); (try (guard_hyp hc : True; clear hc))))
        | (refine EndQ.mk rfl rfl rfl ?_ ?_ ?_; (focus (first | exact Or.inl rfl | exact Or.inr rfl)); (focus ((first | exact trivial | omega | (refine And.intro (by kernel_rfl) (And.intro ⟨_, (by first | exact nums_ints _ _ | rfl), (by first | exact nums_ints _ _ | rfl)⟩ (And.intro ?_ ?_)) <;> (first | rfl | assumption | (simp only [nums_length]; omega) | omega)) | (refine And.intro ?_ (And.intro ?_ ?_); (focus kernel_rfl); (focus kernel_rfl); (focus kernel_rfl)) | ((show newKs _ _ _ = true); kernel_rfl) | ((show FitV _ _ _ _ _ _); (repeat' (first | exact trivial | exact Or.inr (Or.inl rfl) | exact Or.inl rfl | exact Or.inr (Or.inr rfl) | refine And.intro ?_ ?_)); done) | exact ld_nums i3 _ _ (by first | assumption | omega | (simp only [List.length_append]; omega)) | exact ld_nums i29 _ _ (by first | assumption | omega | (simp only [List.length_append]; omega)) | exact ld_nums i5 _ _ (by first | assumption | omega | (simp only [List.length_append]; omega)) | assumption | exact at_nums i3 _ _ (by first | assumption | omega | (simp only [List.length_append]; omega)) | exact at_nums i29 _ _ (by first | assumption | omega | (simp only [List.length_append]; omega)) | exact at_nums i5 _ _ (by first | assumption | omega | (simp only [List.length_append]; omega)) | (show _ ≤ _; omega) | (simp only [List.length_take, List.length_drop, List.length_append, List.length_cons, List.length_nil]; omega) | ((repeat' (first | exact trivial | exact rfl | exact Nat.le_of_ble_eq_true rfl | refine And.intro ?_ ?_ | fail)); done) | ((try simp (disch := omega) only [NS, ints_nums, ints_nil, ints_cons, eqL_nil, eqL_cons, eqS_int, eqS_bool, eqS_str, setI_nums, setI_nums2, List.filterMap_cons, List.filterMap_nil, Option.map_some, Option.map_none, St.add, St.wm, St.wipe1, St.wipeL, callObjs, callKs, ikey, List.nil_append, List.cons_append, Nat.reduceBEq, Nat.reduceAdd, Nat.reduceMul, Int.reduceToNat, Nat.reduceSub, TY, slx, take16, drop16, dz, nums_length, S12, hs1]); (repeat' (first | exact trivial | exact rfl | exact ⟨_, _, rfl⟩ | exact ⟨_, rfl⟩ | exact Nat.le_of_ble_eq_true rfl | exact Nat.zero_lt_succ _ | omega | (simp only [nums_length, toB_len] at *; omega) | refine And.intro ?_ ?_ | fail)); done)); done)); (try simp (disch := omega) only [NS, ints_nums, ints_nil, ints_cons, eqL_nil, eqL_cons, eqS_int, eqS_bool, eqS_str, setI_nums, setI_nums2, List.filterMap_cons, List.filterMap_nil, Option.map_some, Option.map_none, St.add, St.wm, St.wipe1, St.wipeL, callObjs, callKs, ikey, List.nil_append, List.cons_append, Nat.reduceBEq, Nat.reduceAdd, Nat.reduceMul, Int.reduceToNat, Nat.reduceSub, TY, slx, take16, drop16, dz, nums_length, S12, hs1]))
        | fail)
      all_goals first | exact ⟨trivial, trivial⟩ | exact ⟨rfl, trivial⟩ | exact ⟨rfl, rfl⟩ | exact ⟨trivial, rfl⟩ | (exfalso; omega) | trace_state
theorem rof_at (n : Nat) (w : Int) (xs : List Int) (hn : n = xs.length) (hx : ∀ x ∈ xs, 0 ≤ x ∧ x < 2 ^ 64) (hlen : xs.length ≤ 1000000000000) : AC Try.prog 12 [.int .i64 w, .view n 1 (nums .u64 xs)] (fun r m => r = .fagg (nums .u8 (of w xs)) ∧ m = []) := by
  subst hn; exact rof_ok w xs hx hlen
end Go.Proofs.Ytopdealfmajbhaa
