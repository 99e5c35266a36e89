/- MoveLanes. -/
import Derived.Test.YtgmhfbdmigfgbaaV6
import Derived.Test.YtgmhfbdmigfgbaaAwake
import Derived.Test.YtgmhfbdmigfgbaaRExt
namespace Go.Proofs.Ytgmhfbdmigfgbaa
set_option linter.unusedSimpArgs false
set_option linter.unusedVariables false
open Go Go.Abs
attribute [local irreducible] AW AWL AC FW CW CWr IntKind.wrap

def L3 (op ln x : Int) (v : List Int) (k : Int) : St := { n := 109, slots := [(2, .ptr 2 0), (3, .ptr 3 0), (4, .bool false), (5, .int .i64 k)], mem := [(2, ⟨true, [.int .i64 op, .int .i64 ln, .int .u64 x]⟩), (3, ⟨true, nums .u8 v⟩)] }
theorem spS_len (op x : Int) : (spS op x).1.length = 16 := by
  unfold spS; split
  · rfl
  · exact spl_len _ _
theorem reS_len (op i : Int) (v : List Int) (x : Int) (hl : v.length = 16) (hb : bytes v) : (reS op i v x).1.length = 16 := by
  unfold reS; split
  · rfl
  · exact (set_ok _ _ _ hl hb).1
set_option maxRecDepth 4000 in
set_option maxHeartbeats 6400000 in
theorem moveLanes_ok (op ln x : Int) (v : List Int) (hop0 : -9223372036854775808 ≤ op ∧ op < 9223372036854775808) (hx : 0 ≤ x ∧ x < 2 ^ 64) (hl : v.length = 16) (hb : bytes v) :
    AC Try.prog 3 [.fagg [.int .i64 op, .int .i64 ln, .int .u64 x], .fagg (nums .u8 v)] (fun r m => r = .bool true ∧ m = []) := by
  have hop : True := trivial
  refine AC.enter Try.func3 rfl (Nat.le_of_ble_eq_true rfl) ?_
  simp only [Try.f3]
  have hchk : True := by simp only [TY, slx, take16, drop16, dz, nums_length, L3, hl, take16]
  repeat' (first
    | (refine AWL.opN (sl := SL) rfl rfl rfl trivial ?_; (try (conv => arg -1; simp (disch := omega) only [NSX, Nat.reduceBEq, Nat.reduceAdd, Nat.reduceMul, Int.reduceToNat, Nat.reduceSub, TY, slx, take16, drop16, dz, nums_length, L3, hl, take16])))
    | (refine AW.seqQ ?_; intro Qn hQn)
    | (refine AW.blockQ ?_; intro Qn hQn)
    | refine AW.region ?_
    | ((first | refine AW.skip ?_ | refine AW.ret ?_ | refine AW.exit ?_ | refine AWL.nil ?_ | refine CW.nil ?_); (repeat (first | refine QEq.mp (by assumption) ?_ | simp only [thenQ, Go.Abs.blockQ, ↓reduceIte, Nat.reduceEqDiff])))
    | refine FW.nil ?_
    | refine FW.pass rfl rfl ?_
    | refine FW.go rfl ?_
    | refine CW.skip rfl rfl ?_
    | refine CW.step rfl rfl rfl rfl rfl ?_
    | ((first
      | (refine AWL.boxF (t := 24) rfl rfl rfl rfl rfl ?_)
      | (refine AWL.allocF (t := 24) rfl rfl rfl rfl rfl rfl ?_)
      | (refine CWr.allocF (t := 24) rfl rfl rfl ?_ ?_)
      | (refine AWL.boxF (t := 26) rfl rfl rfl rfl rfl ?_)
      | (refine AWL.allocF (t := 26) rfl rfl rfl rfl rfl rfl ?_)
      | (refine CWr.allocF (t := 26) rfl rfl rfl ?_ ?_)
      | (refine AWL.op (sl := SL) rfl rfl ?_ ?_)
      | (refine FW.float rfl rfl rfl rfl rfl ?_)
      | (refine CWr.op rfl ?_ ?_ ?_)
      | (refine CWr.assign rfl ?_ ?_)
      | (refine CWr.alloc rfl rfl rfl rfl ?_)
      | (refine CWr.build rfl rfl rfl rfl ?_ rfl rfl rfl ?_)
      | (refine AWL.frzA rfl rfl ?_)
      | (refine AWL.callV (f := 9) rfl rfl rfl rfl ?_ (Nat.le_of_ble_eq_true rfl) rfl (awake_ok) ?_; (focus kernel_rfl))
      | (refine AWL.call (f := 9) rfl rfl rfl ?_ rfl (Nat.le_of_ble_eq_true rfl) rfl (awake_ok) ?_; (focus kernel_rfl))
      | (refine CWr.call (f := 9) rfl ?_ rfl (awake_ok) (fun _ _ h => h) ?_ ?_ ?_; (focus kernel_rfl))
      | (refine AWL.callV (f := 10) rfl rfl rfl rfl ?_ (Nat.le_of_ble_eq_true rfl) rfl (splat_ok _ _ hop hx.1) ?_; (focus kernel_rfl))
      | (refine AWL.call (f := 10) rfl rfl rfl ?_ rfl (Nat.le_of_ble_eq_true rfl) rfl (splat_ok _ _ hop hx.1) ?_; (focus kernel_rfl))
      | (refine CWr.call (f := 10) rfl ?_ rfl (splat_ok _ _ hop hx.1) (fun _ _ h => h) ?_ ?_ ?_; (focus kernel_rfl))
      | (refine AWL.callV (f := 11) rfl rfl rfl rfl ?_ (Nat.le_of_ble_eq_true rfl) rfl (rsplat_ok _ _ hx.1) ?_; (focus kernel_rfl))
      | (refine AWL.call (f := 11) rfl rfl rfl ?_ rfl (Nat.le_of_ble_eq_true rfl) rfl (rsplat_ok _ _ hx.1) ?_; (focus kernel_rfl))
      | (refine CWr.call (f := 11) rfl ?_ rfl (rsplat_ok _ _ hx.1) (fun _ _ h => h) ?_ ?_ ?_; (focus kernel_rfl))
      | (refine AWL.callV (f := 12) rfl rfl rfl rfl ?_ (Nat.le_of_ble_eq_true rfl) rfl (ext_ok _ _ hop _ hl hb) ?_; (focus kernel_rfl))
      | (refine AWL.call (f := 12) rfl rfl rfl ?_ rfl (Nat.le_of_ble_eq_true rfl) rfl (ext_ok _ _ hop _ hl hb) ?_; (focus kernel_rfl))
      | (refine CWr.call (f := 12) rfl ?_ rfl (ext_ok _ _ hop _ hl hb) (fun _ _ h => h) ?_ ?_ ?_; (focus kernel_rfl))
      | (refine AWL.callV (f := 13) rfl rfl rfl rfl ?_ (Nat.le_of_ble_eq_true rfl) rfl (rext_ok _ _ _ hl hb) ?_; (focus kernel_rfl))
      | (refine AWL.call (f := 13) rfl rfl rfl ?_ rfl (Nat.le_of_ble_eq_true rfl) rfl (rext_ok _ _ _ hl hb) ?_; (focus kernel_rfl))
      | (refine CWr.call (f := 13) rfl ?_ rfl (rext_ok _ _ _ hl hb) (fun _ _ h => h) ?_ ?_ ?_; (focus kernel_rfl))
      | (refine AWL.callV (f := 14) rfl rfl rfl rfl ?_ (Nat.le_of_ble_eq_true rfl) rfl (rep_ok _ _ hop _ hl hb _ hx.1) ?_; (focus kernel_rfl))
      | (refine AWL.call (f := 14) rfl rfl rfl ?_ rfl (Nat.le_of_ble_eq_true rfl) rfl (rep_ok _ _ hop _ hl hb _ hx.1) ?_; (focus kernel_rfl))
      | (refine CWr.call (f := 14) rfl ?_ rfl (rep_ok _ _ hop _ hl hb _ hx.1) (fun _ _ h => h) ?_ ?_ ?_; (focus kernel_rfl))
      | (refine AWL.callV (f := 15) rfl rfl rfl rfl ?_ (Nat.le_of_ble_eq_true rfl) rfl (rrep_ok _ _ _ hl hb _ hx.1 hx.2) ?_; (focus kernel_rfl))
      | (refine AWL.call (f := 15) rfl rfl rfl ?_ rfl (Nat.le_of_ble_eq_true rfl) rfl (rrep_ok _ _ _ hl hb _ hx.1 hx.2) ?_; (focus kernel_rfl))
      | (refine CWr.call (f := 15) rfl ?_ rfl (rrep_ok _ _ _ hl hb _ hx.1 hx.2) (fun _ _ h => h) ?_ ?_ ?_; (focus kernel_rfl))
      | fail) <;> (try ((first | show AWL _ _ _ _ _ | show AW _ _ _ _ | show FW _ _ _ _ _ _ _ _ _ _ | show CW _ _ _ _ _ _ _ _ _ _ _ _ | (rintro _ _ ⟨rfl, rfl⟩; (try refine And.intro rfl ?_))); (try (conv => arg -1; simp (disch := omega) only [NSX, Nat.reduceBEq, Nat.reduceAdd, Nat.reduceMul, Int.reduceToNat, Nat.reduceSub, TY, slx, take16, drop16, dz, nums_length, L3, hl, take16])))))
    | ((first | refine AWL.guard2 rfl rfl rfl rfl rfl rfl ?_ ?_ | refine CW.guard2 rfl rfl rfl rfl rfl rfl rfl rfl ?_ ?_) <;> (intro hc; (try simp only [Bool.not_true, Bool.not_false] at hc); first | (cases hc; done) | ((try simp only [hc]); (try simp only [beq_iff_eq, bne_iff_ne, decide_eq_true_eq, decide_eq_false_iff_not, beq_eq_false_iff_ne, bne_eq_false_iff_eq, ne_eq, Bool.not_eq_true, Bool.not_eq_false, Bool.not_eq_eq_eq_not, Bool.not_true, Bool.not_false, Decidable.not_not, Int.not_lt, Int.not_le] at hc); (try (exfalso; omega)); (try (guard_hyp hc : True; clear hc)))))
    | (refine AWL.guard2 rfl rfl rfl rfl rfl rfl (fun hc => ?_) ?_; (cases hc; done))
    | ((first | ((show AW _ (.region _ _ true) _ _); refine AW.calm false [] [] hmix (by (repeat' (first | exact panOk_end | exact panOk_endM | refine panOk_then ?_ | refine panOk_block ?_ | refine QEq.pan (by assumption) ?_))) ?_ rfl ?_; (focus (as_aux_lemma => kernel_rfl))) | ((show AW _ (.region _ _ true) _ _); refine AW.eager false [] [] hmix (by (repeat' (first | exact panOk_end | exact panOk_endM | refine panOk_then ?_ | refine panOk_block ?_ | refine QEq.pan (by assumption) ?_))) ?_ rfl ?_; (focus (as_aux_lemma => kernel_rfl))) | refine AWL.guardU rfl rfl rfl rfl rfl rfl ?_ | refine CW.guardU rfl rfl rfl rfl rfl rfl rfl rfl ?_); (try (conv => arg -1; simp (disch := omega) only [NSX, Nat.reduceBEq, Nat.reduceAdd, Nat.reduceMul, Int.reduceToNat, Nat.reduceSub, TY, slx, take16, drop16, dz, nums_length, L3, hl, take16])))
    | refine CW.tail rfl ?_
    | (refine AW.cond rfl (fun hc => ?_) (fun hc => ?_) <;> first | (cases hc; done) | ((try simp only [beq_iff_eq, bne_iff_ne, decide_eq_true_eq, decide_eq_false_iff_not, beq_eq_false_iff_ne, bne_eq_false_iff_eq, ne_eq, Bool.not_eq_true, Bool.not_eq_false, Bool.not_eq_eq_eq_not, Bool.not_true, Bool.not_false, Decidable.not_not, Int.not_lt, Int.not_le] at hc); (try (exfalso; omega)); (try (guard_hyp hc : True; clear hc))))
    | ((refine EndQ.mk rfl rfl rfl ?_ ?_ ?_; (focus (first | exact Or.inl rfl | exact Or.inr rfl))) <;> (try simp (disch := omega) only [NSX, Nat.reduceBEq, Nat.reduceAdd, Nat.reduceMul, Int.reduceToNat, Nat.reduceSub, TY, slx, take16, drop16, dz, nums_length, L3, hl, take16]))
    | (focus ((first | exact trivial | omega | (refine And.intro (by kernel_rfl) (And.intro ⟨_, (by first | exact nums_ints _ _ | rfl), (by first | exact nums_ints _ _ | rfl)⟩ (And.intro ?_ ?_)) <;> (first | rfl | assumption | (simp only [nums_length]; omega) | omega)) | (refine And.intro ?_ (And.intro ?_ ?_); (focus kernel_rfl); (focus kernel_rfl); (focus kernel_rfl)) | ((show newKs _ _ _ = true); kernel_rfl) | ((show FitV _ _ _ _ _ _); (repeat' (first | exact trivial | exact Or.inr (Or.inl rfl) | exact Or.inl rfl | exact Or.inr (Or.inr rfl) | refine And.intro ?_ ?_)); done) | assumption | ((first | refine ld_nums i3 _ _ ?_ | refine ld_nums i22 _ _ ?_ | refine ld_nums i5 _ _ ?_ | refine at_nums i3 _ _ ?_ | refine at_nums i22 _ _ ?_ | refine at_nums i5 _ _ ?_); first | assumption | omega | (simp only [List.length_append]; omega)) | (show _ ≤ _; omega) | (simp only [List.length_take, List.length_drop, List.length_append, List.length_cons, List.length_nil]; omega) | ((repeat' (first | exact trivial | exact rfl | exact Nat.le_of_ble_eq_true rfl | refine And.intro ?_ ?_ | fail)); done) | ((try simp (disch := omega) only [NSX, Nat.reduceBEq, Nat.reduceAdd, Nat.reduceMul, Int.reduceToNat, Nat.reduceSub, TY, slx, take16, drop16, dz, nums_length, L3, hl, take16]); (repeat' (first | exact trivial | exact rfl | exact ⟨_, _, rfl⟩ | exact ⟨_, rfl⟩ | exact Nat.le_of_ble_eq_true rfl | exact Nat.zero_lt_succ _ | omega | (simp only [nums_length, toB_len] at *; omega) | refine And.intro ?_ ?_ | fail)); done)); done))
    | fail)
  refine AW.loop [2, 3, 4, 5] [2, 3] (fun n st => ∃ k : Nat, st = L3 op ln x v k ∧ 14 ≤ k ∧ k ≤ 33 ∧ n = 33 - k) ?_ ?_
  · exact ⟨_, 14, rfl, by omega, by omega, rfl⟩
  · rintro n st ⟨k, rfl, hk0, hk, rfl⟩
    have e5 : IntKind.i64.wrap ((k : Int) + 1) = ((k + 1 : Nat) : Int) := wrap64_id _ (by omega) (by omega)
    by_cases hk33 : k < 33
    · by_cases h32 : k = 32
      · subst h32
        have hop := hop0
        have g1 := spS_len op x
        have g2 := reS_len op ln v x hl hb
        have e6 : IntKind.i64.wrap (64768 + ((32 : Nat) : Int)) = 64800 := by decide +kernel
        have hchk : True := by simp only [TY, slx, take16, drop16, dz, nums_length, L3, e5, e6, hl, g1, g2, take16, eq_self, decide_true, Bool.not_true, bne_self_eq_false]
        repeat' (first
          | (refine AWL.opN (sl := SL) rfl rfl rfl trivial ?_; (try (conv => arg -1; simp (disch := omega) only [NSX, Nat.reduceBEq, Nat.reduceAdd, Nat.reduceMul, Int.reduceToNat, Nat.reduceSub, TY, slx, take16, drop16, dz, nums_length, L3, e5, e6, hl, g1, g2, take16, eq_self, decide_true, Bool.not_true, bne_self_eq_false])))
          | (refine AW.seqQ ?_; intro Qn hQn)
          | (refine AW.blockQ ?_; intro Qn hQn)
          | refine AW.region ?_
          | ((first | refine AW.skip ?_ | refine AW.ret ?_ | refine AW.exit ?_ | refine AWL.nil ?_ | refine CW.nil ?_); (repeat (first | refine QEq.mp (by assumption) ?_ | simp only [thenQ, Go.Abs.blockQ, ↓reduceIte, Nat.reduceEqDiff])))
          | refine FW.nil ?_
          | refine FW.pass rfl rfl ?_
          | refine FW.go rfl ?_
          | refine CW.skip rfl rfl ?_
          | refine CW.step rfl rfl rfl rfl rfl ?_
          | ((first
            | (refine AWL.boxF (t := 24) rfl rfl rfl rfl rfl ?_)
            | (refine AWL.allocF (t := 24) rfl rfl rfl rfl rfl rfl ?_)
            | (refine CWr.allocF (t := 24) rfl rfl rfl ?_ ?_)
            | (refine AWL.boxF (t := 26) rfl rfl rfl rfl rfl ?_)
            | (refine AWL.allocF (t := 26) rfl rfl rfl rfl rfl rfl ?_)
            | (refine CWr.allocF (t := 26) rfl rfl rfl ?_ ?_)
            | (refine AWL.op (sl := SL) rfl rfl ?_ ?_)
            | (refine FW.float rfl rfl rfl rfl rfl ?_)
            | (refine CWr.op rfl ?_ ?_ ?_)
            | (refine CWr.assign rfl ?_ ?_)
            | (refine CWr.alloc rfl rfl rfl rfl ?_)
            | (refine CWr.build rfl rfl rfl rfl ?_ rfl rfl rfl ?_)
            | (refine AWL.frzA rfl rfl ?_)
            | (refine AWL.callV (f := 9) rfl rfl rfl rfl ?_ (Nat.le_of_ble_eq_true rfl) rfl (awake_ok) ?_; (focus kernel_rfl))
            | (refine AWL.call (f := 9) rfl rfl rfl ?_ rfl (Nat.le_of_ble_eq_true rfl) rfl (awake_ok) ?_; (focus kernel_rfl))
            | (refine CWr.call (f := 9) rfl ?_ rfl (awake_ok) (fun _ _ h => h) ?_ ?_ ?_; (focus kernel_rfl))
            | (refine AWL.callV (f := 10) rfl rfl rfl rfl ?_ (Nat.le_of_ble_eq_true rfl) rfl (splat_ok _ _ hop hx.1) ?_; (focus kernel_rfl))
            | (refine AWL.call (f := 10) rfl rfl rfl ?_ rfl (Nat.le_of_ble_eq_true rfl) rfl (splat_ok _ _ hop hx.1) ?_; (focus kernel_rfl))
            | (refine CWr.call (f := 10) rfl ?_ rfl (splat_ok _ _ hop hx.1) (fun _ _ h => h) ?_ ?_ ?_; (focus kernel_rfl))
            | (refine AWL.callV (f := 11) rfl rfl rfl rfl ?_ (Nat.le_of_ble_eq_true rfl) rfl (rsplat_ok _ _ hx.1) ?_; (focus kernel_rfl))
            | (refine AWL.call (f := 11) rfl rfl rfl ?_ rfl (Nat.le_of_ble_eq_true rfl) rfl (rsplat_ok _ _ hx.1) ?_; (focus kernel_rfl))
            | (refine CWr.call (f := 11) rfl ?_ rfl (rsplat_ok _ _ hx.1) (fun _ _ h => h) ?_ ?_ ?_; (focus kernel_rfl))
            | (refine AWL.callV (f := 12) rfl rfl rfl rfl ?_ (Nat.le_of_ble_eq_true rfl) rfl (ext_ok _ _ hop _ hl hb) ?_; (focus kernel_rfl))
            | (refine AWL.call (f := 12) rfl rfl rfl ?_ rfl (Nat.le_of_ble_eq_true rfl) rfl (ext_ok _ _ hop _ hl hb) ?_; (focus kernel_rfl))
            | (refine CWr.call (f := 12) rfl ?_ rfl (ext_ok _ _ hop _ hl hb) (fun _ _ h => h) ?_ ?_ ?_; (focus kernel_rfl))
            | (refine AWL.callV (f := 13) rfl rfl rfl rfl ?_ (Nat.le_of_ble_eq_true rfl) rfl (rext_ok _ _ _ hl hb) ?_; (focus kernel_rfl))
            | (refine AWL.call (f := 13) rfl rfl rfl ?_ rfl (Nat.le_of_ble_eq_true rfl) rfl (rext_ok _ _ _ hl hb) ?_; (focus kernel_rfl))
            | (refine CWr.call (f := 13) rfl ?_ rfl (rext_ok _ _ _ hl hb) (fun _ _ h => h) ?_ ?_ ?_; (focus kernel_rfl))
            | (refine AWL.callV (f := 14) rfl rfl rfl rfl ?_ (Nat.le_of_ble_eq_true rfl) rfl (rep_ok _ _ hop _ hl hb _ hx.1) ?_; (focus kernel_rfl))
            | (refine AWL.call (f := 14) rfl rfl rfl ?_ rfl (Nat.le_of_ble_eq_true rfl) rfl (rep_ok _ _ hop _ hl hb _ hx.1) ?_; (focus kernel_rfl))
            | (refine CWr.call (f := 14) rfl ?_ rfl (rep_ok _ _ hop _ hl hb _ hx.1) (fun _ _ h => h) ?_ ?_ ?_; (focus kernel_rfl))
            | (refine AWL.callV (f := 15) rfl rfl rfl rfl ?_ (Nat.le_of_ble_eq_true rfl) rfl (rrep_ok _ _ _ hl hb _ hx.1 hx.2) ?_; (focus kernel_rfl))
            | (refine AWL.call (f := 15) rfl rfl rfl ?_ rfl (Nat.le_of_ble_eq_true rfl) rfl (rrep_ok _ _ _ hl hb _ hx.1 hx.2) ?_; (focus kernel_rfl))
            | (refine CWr.call (f := 15) rfl ?_ rfl (rrep_ok _ _ _ hl hb _ hx.1 hx.2) (fun _ _ h => h) ?_ ?_ ?_; (focus kernel_rfl))
            | fail) <;> (try ((first | show AWL _ _ _ _ _ | show AW _ _ _ _ | show FW _ _ _ _ _ _ _ _ _ _ | show CW _ _ _ _ _ _ _ _ _ _ _ _ | (rintro _ _ ⟨rfl, rfl⟩; (try refine And.intro rfl ?_))); (try (conv => arg -1; simp (disch := omega) only [NSX, Nat.reduceBEq, Nat.reduceAdd, Nat.reduceMul, Int.reduceToNat, Nat.reduceSub, TY, slx, take16, drop16, dz, nums_length, L3, e5, e6, hl, g1, g2, take16, eq_self, decide_true, Bool.not_true, bne_self_eq_false])))))
          | ((first | refine AWL.guard2 rfl rfl rfl rfl rfl rfl ?_ ?_ | refine CW.guard2 rfl rfl rfl rfl rfl rfl rfl rfl ?_ ?_) <;> (intro hc; (try simp only [Bool.not_true, Bool.not_false] at hc); first | (cases hc; done) | ((try simp only [hc]); (try simp only [beq_iff_eq, bne_iff_ne, decide_eq_true_eq, decide_eq_false_iff_not, beq_eq_false_iff_ne, bne_eq_false_iff_eq, ne_eq, Bool.not_eq_true, Bool.not_eq_false, Bool.not_eq_eq_eq_not, Bool.not_true, Bool.not_false, Decidable.not_not, Int.not_lt, Int.not_le] at hc); (try (exfalso; omega)); (try (guard_hyp hc : True; clear hc)))))
          | (refine AWL.guard2 rfl rfl rfl rfl rfl rfl (fun hc => ?_) ?_; (cases hc; done))
          | ((first | ((show AW _ (.region _ _ true) _ _); refine AW.calm false [] [] hmix (by (repeat' (first | exact panOk_end | exact panOk_endM | refine panOk_then ?_ | refine panOk_block ?_ | refine QEq.pan (by assumption) ?_))) ?_ rfl ?_; (focus (as_aux_lemma => kernel_rfl))) | ((show AW _ (.region _ _ true) _ _); refine AW.eager false [] [] hmix (by (repeat' (first | exact panOk_end | exact panOk_endM | refine panOk_then ?_ | refine panOk_block ?_ | refine QEq.pan (by assumption) ?_))) ?_ rfl ?_; (focus (as_aux_lemma => kernel_rfl))) | refine AWL.guardU rfl rfl rfl rfl rfl rfl ?_ | refine CW.guardU rfl rfl rfl rfl rfl rfl rfl rfl ?_); (try (conv => arg -1; simp (disch := omega) only [NSX, Nat.reduceBEq, Nat.reduceAdd, Nat.reduceMul, Int.reduceToNat, Nat.reduceSub, TY, slx, take16, drop16, dz, nums_length, L3, e5, e6, hl, g1, g2, take16, eq_self, decide_true, Bool.not_true, bne_self_eq_false])))
          | refine CW.tail rfl ?_
          | (refine AW.cond rfl (fun hc => ?_) (fun hc => ?_) <;> first | (cases hc; done) | ((try simp only [beq_iff_eq, bne_iff_ne, decide_eq_true_eq, decide_eq_false_iff_not, beq_eq_false_iff_ne, bne_eq_false_iff_eq, ne_eq, Bool.not_eq_true, Bool.not_eq_false, Bool.not_eq_eq_eq_not, Bool.not_true, Bool.not_false, Decidable.not_not, Int.not_lt, Int.not_le] at hc); (try (exfalso; omega)); (try (guard_hyp hc : True; clear hc))))
          | ((refine EndQ.mk rfl rfl rfl ?_ ?_ ?_; (focus (first | exact Or.inl rfl | exact Or.inr rfl))) <;> (try simp (disch := omega) only [NSX, Nat.reduceBEq, Nat.reduceAdd, Nat.reduceMul, Int.reduceToNat, Nat.reduceSub, TY, slx, take16, drop16, dz, nums_length, L3, e5, e6, hl, g1, g2, take16, eq_self, decide_true, Bool.not_true, bne_self_eq_false]))
          | (focus ((first | exact trivial | omega | (refine And.intro (by kernel_rfl) (And.intro ⟨_, (by first | exact nums_ints _ _ | rfl), (by first | exact nums_ints _ _ | rfl)⟩ (And.intro ?_ ?_)) <;> (first | rfl | assumption | (simp only [nums_length]; omega) | omega)) | (refine And.intro ?_ (And.intro ?_ ?_); (focus kernel_rfl); (focus kernel_rfl); (focus kernel_rfl)) | ((show newKs _ _ _ = true); kernel_rfl) | ((show FitV _ _ _ _ _ _); (repeat' (first | exact trivial | exact Or.inr (Or.inl rfl) | exact Or.inl rfl | exact Or.inr (Or.inr rfl) | refine And.intro ?_ ?_)); done) | assumption | ((first | refine ld_nums i3 _ _ ?_ | refine ld_nums i22 _ _ ?_ | refine ld_nums i5 _ _ ?_ | refine at_nums i3 _ _ ?_ | refine at_nums i22 _ _ ?_ | refine at_nums i5 _ _ ?_); first | assumption | omega | (simp only [List.length_append]; omega)) | (show _ ≤ _; omega) | (simp only [List.length_take, List.length_drop, List.length_append, List.length_cons, List.length_nil]; omega) | ((repeat' (first | exact trivial | exact rfl | exact Nat.le_of_ble_eq_true rfl | refine And.intro ?_ ?_ | fail)); done) | ((try simp (disch := omega) only [NSX, Nat.reduceBEq, Nat.reduceAdd, Nat.reduceMul, Int.reduceToNat, Nat.reduceSub, TY, slx, take16, drop16, dz, nums_length, L3, e5, e6, hl, g1, g2, take16, eq_self, decide_true, Bool.not_true, bne_self_eq_false]); (repeat' (first | exact trivial | exact rfl | exact ⟨_, _, rfl⟩ | exact ⟨_, rfl⟩ | exact Nat.le_of_ble_eq_true rfl | exact Nat.zero_lt_succ _ | omega | (simp only [nums_length, toB_len] at *; omega) | refine And.intro ?_ ?_ | fail)); done)); done))
          | fail)
        all_goals try simp (disch := omega) only [NSX, Nat.reduceBEq, Nat.reduceAdd, Nat.reduceMul, Int.reduceToNat, Nat.reduceSub, TY, slx, take16, drop16, dz, nums_length, L3, e5]
        all_goals first
          | exact ⟨33 - (32 + 1), by omega, 32 + 1, rfl, by omega, by omega, rfl⟩
          | (exfalso; omega) | trace_state
      · obtain ⟨o, ho⟩ : ∃ o : Int, o = 64768 + k := ⟨_, rfl⟩
        have e6 : IntKind.i64.wrap (64768 + (k : Int)) = o := by rw [ho]; exact wrap64_id _ (by omega) (by omega)
        have hop : -9223372036854775808 ≤ o ∧ o < 9223372036854775808 := by omega
        have g1 := spS_len o x
        have g2 := reS_len o ln v x hl hb
        clear ho
        have hchk : True := by simp only [TY, slx, take16, drop16, dz, nums_length, L3, e5, e6, hl, g1, g2, take16, eq_self, decide_true, Bool.not_true, bne_self_eq_false]
        repeat' (first
          | (refine AWL.opN (sl := SL) rfl rfl rfl trivial ?_; (try (conv => arg -1; simp (disch := omega) only [NSX, Nat.reduceBEq, Nat.reduceAdd, Nat.reduceMul, Int.reduceToNat, Nat.reduceSub, TY, slx, take16, drop16, dz, nums_length, L3, e5, e6, hl, g1, g2, take16, eq_self, decide_true, Bool.not_true, bne_self_eq_false])))
          | (refine AW.seqQ ?_; intro Qn hQn)
          | (refine AW.blockQ ?_; intro Qn hQn)
          | refine AW.region ?_
          | ((first | refine AW.skip ?_ | refine AW.ret ?_ | refine AW.exit ?_ | refine AWL.nil ?_ | refine CW.nil ?_); (repeat (first | refine QEq.mp (by assumption) ?_ | simp only [thenQ, Go.Abs.blockQ, ↓reduceIte, Nat.reduceEqDiff])))
          | refine FW.nil ?_
          | refine FW.pass rfl rfl ?_
          | refine FW.go rfl ?_
          | refine CW.skip rfl rfl ?_
          | refine CW.step rfl rfl rfl rfl rfl ?_
          | ((first
            | (refine AWL.boxF (t := 24) rfl rfl rfl rfl rfl ?_)
            | (refine AWL.allocF (t := 24) rfl rfl rfl rfl rfl rfl ?_)
            | (refine CWr.allocF (t := 24) rfl rfl rfl ?_ ?_)
            | (refine AWL.boxF (t := 26) rfl rfl rfl rfl rfl ?_)
            | (refine AWL.allocF (t := 26) rfl rfl rfl rfl rfl rfl ?_)
            | (refine CWr.allocF (t := 26) rfl rfl rfl ?_ ?_)
            | (refine AWL.op (sl := SL) rfl rfl ?_ ?_)
            | (refine FW.float rfl rfl rfl rfl rfl ?_)
            | (refine CWr.op rfl ?_ ?_ ?_)
            | (refine CWr.assign rfl ?_ ?_)
            | (refine CWr.alloc rfl rfl rfl rfl ?_)
            | (refine CWr.build rfl rfl rfl rfl ?_ rfl rfl rfl ?_)
            | (refine AWL.frzA rfl rfl ?_)
            | (refine AWL.callV (f := 9) rfl rfl rfl rfl ?_ (Nat.le_of_ble_eq_true rfl) rfl (awake_ok) ?_; (focus kernel_rfl))
            | (refine AWL.call (f := 9) rfl rfl rfl ?_ rfl (Nat.le_of_ble_eq_true rfl) rfl (awake_ok) ?_; (focus kernel_rfl))
            | (refine CWr.call (f := 9) rfl ?_ rfl (awake_ok) (fun _ _ h => h) ?_ ?_ ?_; (focus kernel_rfl))
            | (refine AWL.callV (f := 10) rfl rfl rfl rfl ?_ (Nat.le_of_ble_eq_true rfl) rfl (splat_ok _ _ hop hx.1) ?_; (focus kernel_rfl))
            | (refine AWL.call (f := 10) rfl rfl rfl ?_ rfl (Nat.le_of_ble_eq_true rfl) rfl (splat_ok _ _ hop hx.1) ?_; (focus kernel_rfl))
            | (refine CWr.call (f := 10) rfl ?_ rfl (splat_ok _ _ hop hx.1) (fun _ _ h => h) ?_ ?_ ?_; (focus kernel_rfl))
            | (refine AWL.callV (f := 11) rfl rfl rfl rfl ?_ (Nat.le_of_ble_eq_true rfl) rfl (rsplat_ok _ _ hx.1) ?_; (focus kernel_rfl))
            | (refine AWL.call (f := 11) rfl rfl rfl ?_ rfl (Nat.le_of_ble_eq_true rfl) rfl (rsplat_ok _ _ hx.1) ?_; (focus kernel_rfl))
            | (refine CWr.call (f := 11) rfl ?_ rfl (rsplat_ok _ _ hx.1) (fun _ _ h => h) ?_ ?_ ?_; (focus kernel_rfl))
            | (refine AWL.callV (f := 12) rfl rfl rfl rfl ?_ (Nat.le_of_ble_eq_true rfl) rfl (ext_ok _ _ hop _ hl hb) ?_; (focus kernel_rfl))
            | (refine AWL.call (f := 12) rfl rfl rfl ?_ rfl (Nat.le_of_ble_eq_true rfl) rfl (ext_ok _ _ hop _ hl hb) ?_; (focus kernel_rfl))
            | (refine CWr.call (f := 12) rfl ?_ rfl (ext_ok _ _ hop _ hl hb) (fun _ _ h => h) ?_ ?_ ?_; (focus kernel_rfl))
            | (refine AWL.callV (f := 13) rfl rfl rfl rfl ?_ (Nat.le_of_ble_eq_true rfl) rfl (rext_ok _ _ _ hl hb) ?_; (focus kernel_rfl))
            | (refine AWL.call (f := 13) rfl rfl rfl ?_ rfl (Nat.le_of_ble_eq_true rfl) rfl (rext_ok _ _ _ hl hb) ?_; (focus kernel_rfl))
            | (refine CWr.call (f := 13) rfl ?_ rfl (rext_ok _ _ _ hl hb) (fun _ _ h => h) ?_ ?_ ?_; (focus kernel_rfl))
            | (refine AWL.callV (f := 14) rfl rfl rfl rfl ?_ (Nat.le_of_ble_eq_true rfl) rfl (rep_ok _ _ hop _ hl hb _ hx.1) ?_; (focus kernel_rfl))
            | (refine AWL.call (f := 14) rfl rfl rfl ?_ rfl (Nat.le_of_ble_eq_true rfl) rfl (rep_ok _ _ hop _ hl hb _ hx.1) ?_; (focus kernel_rfl))
            | (refine CWr.call (f := 14) rfl ?_ rfl (rep_ok _ _ hop _ hl hb _ hx.1) (fun _ _ h => h) ?_ ?_ ?_; (focus kernel_rfl))
            | (refine AWL.callV (f := 15) rfl rfl rfl rfl ?_ (Nat.le_of_ble_eq_true rfl) rfl (rrep_ok _ _ _ hl hb _ hx.1 hx.2) ?_; (focus kernel_rfl))
            | (refine AWL.call (f := 15) rfl rfl rfl ?_ rfl (Nat.le_of_ble_eq_true rfl) rfl (rrep_ok _ _ _ hl hb _ hx.1 hx.2) ?_; (focus kernel_rfl))
            | (refine CWr.call (f := 15) rfl ?_ rfl (rrep_ok _ _ _ hl hb _ hx.1 hx.2) (fun _ _ h => h) ?_ ?_ ?_; (focus kernel_rfl))
            | fail) <;> (try ((first | show AWL _ _ _ _ _ | show AW _ _ _ _ | show FW _ _ _ _ _ _ _ _ _ _ | show CW _ _ _ _ _ _ _ _ _ _ _ _ | (rintro _ _ ⟨rfl, rfl⟩; (try refine And.intro rfl ?_))); (try (conv => arg -1; simp (disch := omega) only [NSX, Nat.reduceBEq, Nat.reduceAdd, Nat.reduceMul, Int.reduceToNat, Nat.reduceSub, TY, slx, take16, drop16, dz, nums_length, L3, e5, e6, hl, g1, g2, take16, eq_self, decide_true, Bool.not_true, bne_self_eq_false])))))
          | ((first | refine AWL.guard2 rfl rfl rfl rfl rfl rfl ?_ ?_ | refine CW.guard2 rfl rfl rfl rfl rfl rfl rfl rfl ?_ ?_) <;> (intro hc; (try simp only [Bool.not_true, Bool.not_false] at hc); first | (cases hc; done) | ((try simp only [hc]); (try simp only [beq_iff_eq, bne_iff_ne, decide_eq_true_eq, decide_eq_false_iff_not, beq_eq_false_iff_ne, bne_eq_false_iff_eq, ne_eq, Bool.not_eq_true, Bool.not_eq_false, Bool.not_eq_eq_eq_not, Bool.not_true, Bool.not_false, Decidable.not_not, Int.not_lt, Int.not_le] at hc); (try (exfalso; omega)); (try (guard_hyp hc : True; clear hc)))))
          | (refine AWL.guard2 rfl rfl rfl rfl rfl rfl (fun hc => ?_) ?_; (cases hc; done))
          | ((first | ((show AW _ (.region _ _ true) _ _); refine AW.calm false [] [] hmix (by (repeat' (first | exact panOk_end | exact panOk_endM | refine panOk_then ?_ | refine panOk_block ?_ | refine QEq.pan (by assumption) ?_))) ?_ rfl ?_; (focus (as_aux_lemma => kernel_rfl))) | ((show AW _ (.region _ _ true) _ _); refine AW.eager false [] [] hmix (by (repeat' (first | exact panOk_end | exact panOk_endM | refine panOk_then ?_ | refine panOk_block ?_ | refine QEq.pan (by assumption) ?_))) ?_ rfl ?_; (focus (as_aux_lemma => kernel_rfl))) | refine AWL.guardU rfl rfl rfl rfl rfl rfl ?_ | refine CW.guardU rfl rfl rfl rfl rfl rfl rfl rfl ?_); (try (conv => arg -1; simp (disch := omega) only [NSX, Nat.reduceBEq, Nat.reduceAdd, Nat.reduceMul, Int.reduceToNat, Nat.reduceSub, TY, slx, take16, drop16, dz, nums_length, L3, e5, e6, hl, g1, g2, take16, eq_self, decide_true, Bool.not_true, bne_self_eq_false])))
          | refine CW.tail rfl ?_
          | (refine AW.cond rfl (fun hc => ?_) (fun hc => ?_) <;> first | (cases hc; done) | ((try simp only [beq_iff_eq, bne_iff_ne, decide_eq_true_eq, decide_eq_false_iff_not, beq_eq_false_iff_ne, bne_eq_false_iff_eq, ne_eq, Bool.not_eq_true, Bool.not_eq_false, Bool.not_eq_eq_eq_not, Bool.not_true, Bool.not_false, Decidable.not_not, Int.not_lt, Int.not_le] at hc); (try (exfalso; omega)); (try (guard_hyp hc : True; clear hc))))
          | ((refine EndQ.mk rfl rfl rfl ?_ ?_ ?_; (focus (first | exact Or.inl rfl | exact Or.inr rfl))) <;> (try simp (disch := omega) only [NSX, Nat.reduceBEq, Nat.reduceAdd, Nat.reduceMul, Int.reduceToNat, Nat.reduceSub, TY, slx, take16, drop16, dz, nums_length, L3, e5, e6, hl, g1, g2, take16, eq_self, decide_true, Bool.not_true, bne_self_eq_false]))
          | (focus ((first | exact trivial | omega | (refine And.intro (by kernel_rfl) (And.intro ⟨_, (by first | exact nums_ints _ _ | rfl), (by first | exact nums_ints _ _ | rfl)⟩ (And.intro ?_ ?_)) <;> (first | rfl | assumption | (simp only [nums_length]; omega) | omega)) | (refine And.intro ?_ (And.intro ?_ ?_); (focus kernel_rfl); (focus kernel_rfl); (focus kernel_rfl)) | ((show newKs _ _ _ = true); kernel_rfl) | ((show FitV _ _ _ _ _ _); (repeat' (first | exact trivial | exact Or.inr (Or.inl rfl) | exact Or.inl rfl | exact Or.inr (Or.inr rfl) | refine And.intro ?_ ?_)); done) | assumption | ((first | refine ld_nums i3 _ _ ?_ | refine ld_nums i22 _ _ ?_ | refine ld_nums i5 _ _ ?_ | refine at_nums i3 _ _ ?_ | refine at_nums i22 _ _ ?_ | refine at_nums i5 _ _ ?_); first | assumption | omega | (simp only [List.length_append]; omega)) | (show _ ≤ _; omega) | (simp only [List.length_take, List.length_drop, List.length_append, List.length_cons, List.length_nil]; omega) | ((repeat' (first | exact trivial | exact rfl | exact Nat.le_of_ble_eq_true rfl | refine And.intro ?_ ?_ | fail)); done) | ((try simp (disch := omega) only [NSX, Nat.reduceBEq, Nat.reduceAdd, Nat.reduceMul, Int.reduceToNat, Nat.reduceSub, TY, slx, take16, drop16, dz, nums_length, L3, e5, e6, hl, g1, g2, take16, eq_self, decide_true, Bool.not_true, bne_self_eq_false]); (repeat' (first | exact trivial | exact rfl | exact ⟨_, _, rfl⟩ | exact ⟨_, rfl⟩ | exact Nat.le_of_ble_eq_true rfl | exact Nat.zero_lt_succ _ | omega | (simp only [nums_length, toB_len] at *; omega) | refine And.intro ?_ ?_ | fail)); done)); done))
          | fail)
        all_goals try simp (disch := omega) only [NSX, Nat.reduceBEq, Nat.reduceAdd, Nat.reduceMul, Int.reduceToNat, Nat.reduceSub, TY, slx, take16, drop16, dz, nums_length, L3, e5]
        all_goals first
          | exact ⟨33 - (k + 1), by omega, k + 1, rfl, by omega, by omega, rfl⟩
          | (exfalso; omega) | trace_state
    · have hchk : True := by simp only [TY, slx, take16, drop16, dz, nums_length, L3]
      repeat' (first
        | (refine AWL.opN (sl := SL) rfl rfl rfl trivial ?_; (try (conv => arg -1; simp (disch := omega) only [NSX, Nat.reduceBEq, Nat.reduceAdd, Nat.reduceMul, Int.reduceToNat, Nat.reduceSub, TY, slx, take16, drop16, dz, nums_length, L3])))
        | (refine AW.seqQ ?_; intro Qn hQn)
        | (refine AW.blockQ ?_; intro Qn hQn)
        | refine AW.region ?_
        | ((first | refine AW.skip ?_ | refine AW.ret ?_ | refine AW.exit ?_ | refine AWL.nil ?_ | refine CW.nil ?_); (repeat (first | refine QEq.mp (by assumption) ?_ | simp only [thenQ, Go.Abs.blockQ, ↓reduceIte, Nat.reduceEqDiff])))
        | refine FW.nil ?_
        | refine FW.pass rfl rfl ?_
        | refine FW.go rfl ?_
        | refine CW.skip rfl rfl ?_
        | refine CW.step rfl rfl rfl rfl rfl ?_
        | ((first
          | (refine AWL.boxF (t := 24) rfl rfl rfl rfl rfl ?_)
          | (refine AWL.allocF (t := 24) rfl rfl rfl rfl rfl rfl ?_)
          | (refine CWr.allocF (t := 24) rfl rfl rfl ?_ ?_)
          | (refine AWL.boxF (t := 26) rfl rfl rfl rfl rfl ?_)
          | (refine AWL.allocF (t := 26) rfl rfl rfl rfl rfl rfl ?_)
          | (refine CWr.allocF (t := 26) rfl rfl rfl ?_ ?_)
          | (refine AWL.op (sl := SL) rfl rfl ?_ ?_)
          | (refine FW.float rfl rfl rfl rfl rfl ?_)
          | (refine CWr.op rfl ?_ ?_ ?_)
          | (refine CWr.assign rfl ?_ ?_)
          | (refine CWr.alloc rfl rfl rfl rfl ?_)
          | (refine CWr.build rfl rfl rfl rfl ?_ rfl rfl rfl ?_)
          | (refine AWL.frzA rfl rfl ?_)
          | (refine AWL.callV (f := 9) rfl rfl rfl rfl ?_ (Nat.le_of_ble_eq_true rfl) rfl (awake_ok) ?_; (focus kernel_rfl))
          | (refine AWL.call (f := 9) rfl rfl rfl ?_ rfl (Nat.le_of_ble_eq_true rfl) rfl (awake_ok) ?_; (focus kernel_rfl))
          | (refine CWr.call (f := 9) rfl ?_ rfl (awake_ok) (fun _ _ h => h) ?_ ?_ ?_; (focus kernel_rfl))
          | (refine AWL.callV (f := 10) rfl rfl rfl rfl ?_ (Nat.le_of_ble_eq_true rfl) rfl (splat_ok _ _ hop hx.1) ?_; (focus kernel_rfl))
          | (refine AWL.call (f := 10) rfl rfl rfl ?_ rfl (Nat.le_of_ble_eq_true rfl) rfl (splat_ok _ _ hop hx.1) ?_; (focus kernel_rfl))
          | (refine CWr.call (f := 10) rfl ?_ rfl (splat_ok _ _ hop hx.1) (fun _ _ h => h) ?_ ?_ ?_; (focus kernel_rfl))
          | (refine AWL.callV (f := 11) rfl rfl rfl rfl ?_ (Nat.le_of_ble_eq_true rfl) rfl (rsplat_ok _ _ hx.1) ?_; (focus kernel_rfl))
          | (refine AWL.call (f := 11) rfl rfl rfl ?_ rfl (Nat.le_of_ble_eq_true rfl) rfl (rsplat_ok _ _ hx.1) ?_; (focus kernel_rfl))
          | (refine CWr.call (f := 11) rfl ?_ rfl (rsplat_ok _ _ hx.1) (fun _ _ h => h) ?_ ?_ ?_; (focus kernel_rfl))
          | (refine AWL.callV (f := 12) rfl rfl rfl rfl ?_ (Nat.le_of_ble_eq_true rfl) rfl (ext_ok _ _ hop _ hl hb) ?_; (focus kernel_rfl))
          | (refine AWL.call (f := 12) rfl rfl rfl ?_ rfl (Nat.le_of_ble_eq_true rfl) rfl (ext_ok _ _ hop _ hl hb) ?_; (focus kernel_rfl))
          | (refine CWr.call (f := 12) rfl ?_ rfl (ext_ok _ _ hop _ hl hb) (fun _ _ h => h) ?_ ?_ ?_; (focus kernel_rfl))
          | (refine AWL.callV (f := 13) rfl rfl rfl rfl ?_ (Nat.le_of_ble_eq_true rfl) rfl (rext_ok _ _ _ hl hb) ?_; (focus kernel_rfl))
          | (refine AWL.call (f := 13) rfl rfl rfl ?_ rfl (Nat.le_of_ble_eq_true rfl) rfl (rext_ok _ _ _ hl hb) ?_; (focus kernel_rfl))
          | (refine CWr.call (f := 13) rfl ?_ rfl (rext_ok _ _ _ hl hb) (fun _ _ h => h) ?_ ?_ ?_; (focus kernel_rfl))
          | (refine AWL.callV (f := 14) rfl rfl rfl rfl ?_ (Nat.le_of_ble_eq_true rfl) rfl (rep_ok _ _ hop _ hl hb _ hx.1) ?_; (focus kernel_rfl))
          | (refine AWL.call (f := 14) rfl rfl rfl ?_ rfl (Nat.le_of_ble_eq_true rfl) rfl (rep_ok _ _ hop _ hl hb _ hx.1) ?_; (focus kernel_rfl))
          | (refine CWr.call (f := 14) rfl ?_ rfl (rep_ok _ _ hop _ hl hb _ hx.1) (fun _ _ h => h) ?_ ?_ ?_; (focus kernel_rfl))
          | (refine AWL.callV (f := 15) rfl rfl rfl rfl ?_ (Nat.le_of_ble_eq_true rfl) rfl (rrep_ok _ _ _ hl hb _ hx.1 hx.2) ?_; (focus kernel_rfl))
          | (refine AWL.call (f := 15) rfl rfl rfl ?_ rfl (Nat.le_of_ble_eq_true rfl) rfl (rrep_ok _ _ _ hl hb _ hx.1 hx.2) ?_; (focus kernel_rfl))
          | (refine CWr.call (f := 15) rfl ?_ rfl (rrep_ok _ _ _ hl hb _ hx.1 hx.2) (fun _ _ h => h) ?_ ?_ ?_; (focus kernel_rfl))
          | fail) <;> (try ((first | show AWL _ _ _ _ _ | show AW _ _ _ _ | show FW _ _ _ _ _ _ _ _ _ _ | show CW _ _ _ _ _ _ _ _ _ _ _ _ | (rintro _ _ ⟨rfl, rfl⟩; (try refine And.intro rfl ?_))); (try (conv => arg -1; simp (disch := omega) only [NSX, Nat.reduceBEq, Nat.reduceAdd, Nat.reduceMul, Int.reduceToNat, Nat.reduceSub, TY, slx, take16, drop16, dz, nums_length, L3])))))
        | ((first | refine AWL.guard2 rfl rfl rfl rfl rfl rfl ?_ ?_ | refine CW.guard2 rfl rfl rfl rfl rfl rfl rfl rfl ?_ ?_) <;> (intro hc; (try simp only [Bool.not_true, Bool.not_false] at hc); first | (cases hc; done) | ((try simp only [hc]); (try simp only [beq_iff_eq, bne_iff_ne, decide_eq_true_eq, decide_eq_false_iff_not, beq_eq_false_iff_ne, bne_eq_false_iff_eq, ne_eq, Bool.not_eq_true, Bool.not_eq_false, Bool.not_eq_eq_eq_not, Bool.not_true, Bool.not_false, Decidable.not_not, Int.not_lt, Int.not_le] at hc); (try (exfalso; omega)); (try (guard_hyp hc : True; clear hc)))))
        | (refine AWL.guard2 rfl rfl rfl rfl rfl rfl (fun hc => ?_) ?_; (cases hc; done))
        | ((first | ((show AW _ (.region _ _ true) _ _); refine AW.calm false [] [] hmix (by (repeat' (first | exact panOk_end | exact panOk_endM | refine panOk_then ?_ | refine panOk_block ?_ | refine QEq.pan (by assumption) ?_))) ?_ rfl ?_; (focus (as_aux_lemma => kernel_rfl))) | ((show AW _ (.region _ _ true) _ _); refine AW.eager false [] [] hmix (by (repeat' (first | exact panOk_end | exact panOk_endM | refine panOk_then ?_ | refine panOk_block ?_ | refine QEq.pan (by assumption) ?_))) ?_ rfl ?_; (focus (as_aux_lemma => kernel_rfl))) | refine AWL.guardU rfl rfl rfl rfl rfl rfl ?_ | refine CW.guardU rfl rfl rfl rfl rfl rfl rfl rfl ?_); (try (conv => arg -1; simp (disch := omega) only [NSX, Nat.reduceBEq, Nat.reduceAdd, Nat.reduceMul, Int.reduceToNat, Nat.reduceSub, TY, slx, take16, drop16, dz, nums_length, L3])))
        | refine CW.tail rfl ?_
        | (refine AW.cond rfl (fun hc => ?_) (fun hc => ?_) <;> first | (cases hc; done) | ((try simp only [beq_iff_eq, bne_iff_ne, decide_eq_true_eq, decide_eq_false_iff_not, beq_eq_false_iff_ne, bne_eq_false_iff_eq, ne_eq, Bool.not_eq_true, Bool.not_eq_false, Bool.not_eq_eq_eq_not, Bool.not_true, Bool.not_false, Decidable.not_not, Int.not_lt, Int.not_le] at hc); (try (exfalso; omega)); (try (guard_hyp hc : True; clear hc))))
        | ((refine EndQ.mk rfl rfl rfl ?_ ?_ ?_; (focus (first | exact Or.inl rfl | exact Or.inr rfl))) <;> (try simp (disch := omega) only [NSX, Nat.reduceBEq, Nat.reduceAdd, Nat.reduceMul, Int.reduceToNat, Nat.reduceSub, TY, slx, take16, drop16, dz, nums_length, L3]))
        | (focus ((first | exact trivial | omega | (refine And.intro (by kernel_rfl) (And.intro ⟨_, (by first | exact nums_ints _ _ | rfl), (by first | exact nums_ints _ _ | rfl)⟩ (And.intro ?_ ?_)) <;> (first | rfl | assumption | (simp only [nums_length]; omega) | omega)) | (refine And.intro ?_ (And.intro ?_ ?_); (focus kernel_rfl); (focus kernel_rfl); (focus kernel_rfl)) | ((show newKs _ _ _ = true); kernel_rfl) | ((show FitV _ _ _ _ _ _); (repeat' (first | exact trivial | exact Or.inr (Or.inl rfl) | exact Or.inl rfl | exact Or.inr (Or.inr rfl) | refine And.intro ?_ ?_)); done) | assumption | ((first | refine ld_nums i3 _ _ ?_ | refine ld_nums i22 _ _ ?_ | refine ld_nums i5 _ _ ?_ | refine at_nums i3 _ _ ?_ | refine at_nums i22 _ _ ?_ | refine at_nums i5 _ _ ?_); first | assumption | omega | (simp only [List.length_append]; omega)) | (show _ ≤ _; omega) | (simp only [List.length_take, List.length_drop, List.length_append, List.length_cons, List.length_nil]; omega) | ((repeat' (first | exact trivial | exact rfl | exact Nat.le_of_ble_eq_true rfl | refine And.intro ?_ ?_ | fail)); done) | ((try simp (disch := omega) only [NSX, Nat.reduceBEq, Nat.reduceAdd, Nat.reduceMul, Int.reduceToNat, Nat.reduceSub, TY, slx, take16, drop16, dz, nums_length, L3]); (repeat' (first | exact trivial | exact rfl | exact ⟨_, _, rfl⟩ | exact ⟨_, rfl⟩ | exact Nat.le_of_ble_eq_true rfl | exact Nat.zero_lt_succ _ | omega | (simp only [nums_length, toB_len] at *; omega) | refine And.intro ?_ ?_ | fail)); done)); done))
        | fail)
      all_goals first | exact ⟨trivial, trivial⟩ | exact ⟨rfl, trivial⟩ | exact ⟨rfl, rfl⟩ | exact ⟨trivial, rfl⟩ | (exfalso; omega) | trace_state
end Go.Proofs.Ytgmhfbdmigfgbaa
