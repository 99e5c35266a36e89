/- Splat, of both. -/
import Derived.Test.YtgmhfbdmigfgbaaV5
import Derived.Test.YtgmhfbdmigfgbaaFind
import Derived.Test.YtgmhfbdmigfgbaaSet
import Derived.Test.YtgmhfbdmigfgbaaShuf
namespace Go.Proofs.Ytgmhfbdmigfgbaa
set_option linter.unusedSimpArgs false
set_option linter.unusedVariables false
open Go Go.Abs
attribute [local irreducible] AW AWL AC FW CW CWr IntKind.wrap

/-- one number in all lanes -/
def spl (w x : Int) : List Int := (List.range 16).map fun k => x / 2 ^ (8 * k % w.toNat) % 256
def spW (op : Int) : Int := if op = 64783 then 8 else if op = 64784 then 16 else if op = 64785 then 32 else if op = 64786 then 64 else 0
def spS (op x : Int) : List Int × Int := if spW op = 0 then (zero16, 1) else (spl (spW op) x, 0)
theorem sets_rep (w x : Int) (k : Nat) : sets w zero16 0 (List.replicate (k + 1) x) = set (sets w zero16 0 (List.replicate k x)) w k x := by
  rw [List.replicate_succ', sets_snoc, List.length_replicate]; simp
theorem spl_sets (w x : Int) (hw : w = 8 ∨ w = 16 ∨ w = 32 ∨ w = 64) : sets w zero16 0 (List.replicate (lanes w) x) = spl w x := by
  rcases hw with rfl | rfl | rfl | rfl
  all_goals (
    simp [sets, set, splice, toB, zero16, lanes, wb, spl, List.replicate, List.range_succ]
    try omega)
theorem spl_len (w x : Int) : (spl w x).length = 16 := by simp [spl]
def S11r (op x i k : Int) (v : List Int) : St := { n := 32, slots := [(0, .int .i64 op), (1, .int .u64 x), (4, .ptr 4 0), (5, .int .i64 0), (6, .int .i64 i), (7, .ptr 7 0), (8, .int .i64 k)], mem := [(4, ⟨true, nums .u8 zero16⟩), (7, ⟨true, nums .u8 v⟩)] }
def S10 (op x w n : Int) (v : List Int) (i : Int) : St := { n := 34, slots := [(0, .int .i64 op), (1, .int .u64 x), (4, .ptr 4 0), (5, .int .i64 0), (7, .ptr 7 0), (8, .int .i64 w), (23, .int .i64 n), (24, .int .i64 i)], mem := [(4, ⟨true, nums .u8 zero16⟩), (7, ⟨true, nums .u8 v⟩)] }
set_option maxHeartbeats 3200000 in
theorem splat_in (op x w : Int) (k : Nat) (hk : k ≤ 3) (hop : op = 64783 + k) (hw : w = 8 * 2 ^ k) (hx0 : 0 ≤ x) :
    AC Try.prog 10 [.int .i64 op, .int .u64 x] (fun r m => r = .tup [.fagg (nums .u8 (spl w x)), .int .i64 0] ∧ m = []) := by
  have hs1 : True := trivial
  have hs2 : True := trivial
  have e1 : IntKind.i64.wrap (op - 64768) = 15 + k := by rw [hop]; rw [wrap64_id _ (by omega) (by omega)]; omega
  have e2 : IntKind.i64.wrap (15 + (k : Int) - 15) = k := by rw [wrap64_id _ (by omega) (by omega)]; omega
  have hk4 : k = 0 ∨ k = 1 ∨ k = 2 ∨ k = 3 := by omega
  have e3 : IntKind.i64.wrap (8 * 2 ^ min k IntKind.i64.bits) = w := by rw [hw]; rcases hk4 with rfl | rfl | rfl | rfl <;> decide +kernel
  have hw4 : w = 8 ∨ w = 16 ∨ w = 32 ∨ w = 64 := by rw [hw]; rcases hk4 with rfl | rfl | rfl | rfl <;> decide
  have hL : lanes w ≤ 16 := by rcases hw4 with rfl | rfl | rfl | rfl <;> decide
  have hlanes := lanes_ok w
  refine AC.enter Try.func10 rfl (Nat.le_of_ble_eq_true rfl) ?_
  simp only [Try.f10]
  have hchk : True := by simp only [TY, slx, take16, drop16, dz, nums_length, S10, S11r, e1, e2, e3]
  repeat' (first
    | (refine AWL.opN (sl := SL) rfl rfl rfl trivial ?_; (try (conv => arg -1; simp (disch := omega) only [NSX, Nat.reduceBEq, Nat.reduceAdd, Nat.reduceMul, Int.reduceToNat, Nat.reduceSub, TY, slx, take16, drop16, dz, nums_length, S10, S11r, e1, e2, e3])))
    | (refine AW.seqQ ?_; intro Qn hQn)
    | (refine AW.blockQ ?_; intro Qn hQn)
    | refine AW.region ?_
    | ((first | refine AW.skip ?_ | refine AW.ret ?_ | refine AW.exit ?_ | refine AWL.nil ?_ | refine CW.nil ?_); (repeat (first | refine QEq.mp (by assumption) ?_ | simp only [thenQ, Go.Abs.blockQ, ↓reduceIte, Nat.reduceEqDiff])))
    | refine FW.nil ?_
    | refine FW.pass rfl rfl ?_
    | refine FW.go rfl ?_
    | refine CW.skip rfl rfl ?_
    | refine CW.step rfl rfl rfl rfl rfl ?_
    | ((first
      | (refine AWL.boxF (t := 26) rfl rfl rfl rfl rfl ?_)
      | (refine AWL.allocF (t := 26) rfl rfl rfl rfl rfl rfl ?_)
      | (refine CWr.allocF (t := 26) rfl rfl rfl ?_ ?_)
      | (refine AWL.op (sl := SL) rfl rfl ?_ ?_)
      | (refine FW.float rfl rfl rfl rfl rfl ?_)
      | (refine CWr.op rfl ?_ ?_ ?_)
      | (refine CWr.assign rfl ?_ ?_)
      | (refine CWr.alloc rfl rfl rfl rfl ?_)
      | (refine CWr.build rfl rfl rfl rfl ?_ rfl rfl rfl ?_)
      | (refine AWL.frzA rfl rfl ?_)
      | (refine AWL.callV (f := 25) rfl rfl rfl rfl ?_ (Nat.le_of_ble_eq_true rfl) rfl (hlanes) ?_; (focus kernel_rfl))
      | (refine AWL.call (f := 25) rfl rfl rfl ?_ rfl (Nat.le_of_ble_eq_true rfl) rfl (hlanes) ?_; (focus kernel_rfl))
      | (refine CWr.call (f := 25) rfl ?_ rfl (hlanes) (fun _ _ h => h) ?_ ?_ ?_; (focus kernel_rfl))
      | (refine AWL.callV (f := 26) rfl rfl rfl rfl ?_ (Nat.le_of_ble_eq_true rfl) rfl (set_walk _ hs1 hs2 _ _ _ hx0) ?_; (focus kernel_rfl))
      | (refine AWL.call (f := 26) rfl rfl rfl ?_ rfl (Nat.le_of_ble_eq_true rfl) rfl (set_walk _ hs1 hs2 _ _ _ hx0) ?_; (focus kernel_rfl))
      | (refine CWr.call (f := 26) rfl ?_ rfl (set_walk _ hs1 hs2 _ _ _ hx0) (fun _ _ h => h) ?_ ?_ ?_; (focus kernel_rfl))
      | (refine AWL.callV (f := 27) rfl rfl rfl rfl ?_ (Nat.le_of_ble_eq_true rfl) rfl (hfind) ?_; (focus kernel_rfl))
      | (refine AWL.call (f := 27) rfl rfl rfl ?_ rfl (Nat.le_of_ble_eq_true rfl) rfl (hfind) ?_; (focus kernel_rfl))
      | (refine CWr.call (f := 27) rfl ?_ rfl (hfind) (fun _ _ h => h) ?_ ?_ ?_; (focus kernel_rfl))
      | (refine AWL.callV (f := 28) rfl rfl rfl rfl ?_ (Nat.le_of_ble_eq_true rfl) rfl (hwid) ?_; (focus kernel_rfl))
      | (refine AWL.call (f := 28) rfl rfl rfl ?_ rfl (Nat.le_of_ble_eq_true rfl) rfl (hwid) ?_; (focus kernel_rfl))
      | (refine CWr.call (f := 28) rfl ?_ rfl (hwid) (fun _ _ h => h) ?_ ?_ ?_; (focus kernel_rfl))
      | fail) <;> (try ((first | show AWL _ _ _ _ _ | show AW _ _ _ _ | show FW _ _ _ _ _ _ _ _ _ _ | show CW _ _ _ _ _ _ _ _ _ _ _ _ | (rintro _ _ ⟨rfl, rfl⟩; (try refine And.intro rfl ?_))); (try (conv => arg -1; simp (disch := omega) only [NSX, Nat.reduceBEq, Nat.reduceAdd, Nat.reduceMul, Int.reduceToNat, Nat.reduceSub, TY, slx, take16, drop16, dz, nums_length, S10, S11r, e1, e2, e3])))))
    | ((first | refine AWL.guard2 rfl rfl rfl rfl rfl rfl ?_ ?_ | refine CW.guard2 rfl rfl rfl rfl rfl rfl rfl rfl ?_ ?_) <;> (intro hc; (try simp only [Bool.not_true, Bool.not_false] at hc); first | (cases hc; done) | ((try simp only [hc]); (try simp only [beq_iff_eq, bne_iff_ne, decide_eq_true_eq, decide_eq_false_iff_not, beq_eq_false_iff_ne, bne_eq_false_iff_eq, ne_eq, Bool.not_eq_true, Bool.not_eq_false, Bool.not_eq_eq_eq_not, Bool.not_true, Bool.not_false, Decidable.not_not, Int.not_lt, Int.not_le] at hc); (try (exfalso; omega)); (try (guard_hyp hc : True; clear hc)))))
    | (refine AWL.guard2 rfl rfl rfl rfl rfl rfl (fun hc => ?_) ?_; (cases hc; done))
    | ((first | ((show AW _ (.region _ _ true) _ _); refine AW.calm false [] [] hmix (by (repeat' (first | exact panOk_end | exact panOk_endM | refine panOk_then ?_ | refine panOk_block ?_ | refine QEq.pan (by assumption) ?_))) ?_ rfl ?_; (focus (as_aux_lemma => kernel_rfl))) | refine AWL.guardU rfl rfl rfl rfl rfl rfl ?_ | refine CW.guardU rfl rfl rfl rfl rfl rfl rfl rfl ?_); (try (conv => arg -1; simp (disch := omega) only [NSX, Nat.reduceBEq, Nat.reduceAdd, Nat.reduceMul, Int.reduceToNat, Nat.reduceSub, TY, slx, take16, drop16, dz, nums_length, S10, S11r, e1, e2, e3])))
    | refine CW.tail rfl ?_
    | (refine AW.cond rfl (fun hc => ?_) (fun hc => ?_) <;> first | (cases hc; done) | ((try simp only [beq_iff_eq, bne_iff_ne, decide_eq_true_eq, decide_eq_false_iff_not, beq_eq_false_iff_ne, bne_eq_false_iff_eq, ne_eq, Bool.not_eq_true, Bool.not_eq_false, Bool.not_eq_eq_eq_not, Bool.not_true, Bool.not_false, Decidable.not_not, Int.not_lt, Int.not_le] at hc); (try (exfalso; omega)); (try (guard_hyp hc : True; clear hc))))
    | ((refine EndQ.mk rfl rfl rfl ?_ ?_ ?_; (focus (first | exact Or.inl rfl | exact Or.inr rfl))) <;> (try simp (disch := omega) only [NSX, Nat.reduceBEq, Nat.reduceAdd, Nat.reduceMul, Int.reduceToNat, Nat.reduceSub, TY, slx, take16, drop16, dz, nums_length, S10, S11r, e1, e2, e3]))
    | (focus ((first | exact trivial | omega | (refine And.intro (by kernel_rfl) (And.intro ⟨_, (by first | exact nums_ints _ _ | rfl), (by first | exact nums_ints _ _ | rfl)⟩ (And.intro ?_ ?_)) <;> (first | rfl | assumption | (simp only [nums_length]; omega) | omega)) | (refine And.intro ?_ (And.intro ?_ ?_); (focus kernel_rfl); (focus kernel_rfl); (focus kernel_rfl)) | ((show newKs _ _ _ = true); kernel_rfl) | ((show FitV _ _ _ _ _ _); (repeat' (first | exact trivial | exact Or.inr (Or.inl rfl) | exact Or.inl rfl | exact Or.inr (Or.inr rfl) | refine And.intro ?_ ?_)); done) | assumption | ((first | refine ld_nums i3 _ _ ?_ | refine ld_nums i22 _ _ ?_ | refine ld_nums i5 _ _ ?_ | refine at_nums i3 _ _ ?_ | refine at_nums i22 _ _ ?_ | refine at_nums i5 _ _ ?_); first | assumption | omega | (simp only [List.length_append]; omega)) | (show _ ≤ _; omega) | (simp only [List.length_take, List.length_drop, List.length_append, List.length_cons, List.length_nil]; omega) | ((repeat' (first | exact trivial | exact rfl | exact Nat.le_of_ble_eq_true rfl | refine And.intro ?_ ?_ | fail)); done) | ((try simp (disch := omega) only [NSX, Nat.reduceBEq, Nat.reduceAdd, Nat.reduceMul, Int.reduceToNat, Nat.reduceSub, TY, slx, take16, drop16, dz, nums_length, S10, S11r, e1, e2, e3]); (repeat' (first | exact trivial | exact rfl | exact ⟨_, _, rfl⟩ | exact ⟨_, rfl⟩ | exact Nat.le_of_ble_eq_true rfl | exact Nat.zero_lt_succ _ | omega | (simp only [nums_length, toB_len] at *; omega) | refine And.intro ?_ ?_ | fail)); done)); done))
    | fail)
  all_goals try (exfalso; omega)
  refine AW.loop [0, 1, 4, 5, 7, 8, 23, 24] [4, 7] (fun n st => ∃ i : Nat, st = S10 op x w (lanes w : Nat) (sets w zero16 0 (List.replicate i x)) i ∧ i ≤ lanes w ∧ n = lanes w - i) ?_ ?_
  · exact ⟨_, 0, rfl, Nat.zero_le _, rfl⟩
  · rintro n st ⟨i, rfl, hi, rfl⟩
    have hs := sets_ok w (List.replicate i x) zero16 0 zero_ok.1 zero_ok.2
    have hs1 := hs.1
    have hs2 := hs.2
    have e5 : IntKind.i64.wrap ((i : Int) + 1) = ((i + 1 : Nat) : Int) := wrap64_id _ (by omega) (by omega)
    by_cases hil : i < lanes w
    · have e7 := sets_rep w x i
      have hl2 := (set_ok w i x hs.1 hs.2).1
      have hchk : True := by simp only [TY, slx, take16, drop16, dz, nums_length, S10, S11r, e5, hs1, hl2]
      repeat' (first
        | (refine AWL.opN (sl := SL) rfl rfl rfl trivial ?_; (try (conv => arg -1; simp (disch := omega) only [NSX, Nat.reduceBEq, Nat.reduceAdd, Nat.reduceMul, Int.reduceToNat, Nat.reduceSub, TY, slx, take16, drop16, dz, nums_length, S10, S11r, e5, hs1, hl2])))
        | (refine AW.seqQ ?_; intro Qn hQn)
        | (refine AW.blockQ ?_; intro Qn hQn)
        | refine AW.region ?_
        | ((first | refine AW.skip ?_ | refine AW.ret ?_ | refine AW.exit ?_ | refine AWL.nil ?_ | refine CW.nil ?_); (repeat (first | refine QEq.mp (by assumption) ?_ | simp only [thenQ, Go.Abs.blockQ, ↓reduceIte, Nat.reduceEqDiff])))
        | refine FW.nil ?_
        | refine FW.pass rfl rfl ?_
        | refine FW.go rfl ?_
        | refine CW.skip rfl rfl ?_
        | refine CW.step rfl rfl rfl rfl rfl ?_
        | ((first
          | (refine AWL.boxF (t := 26) rfl rfl rfl rfl rfl ?_)
          | (refine AWL.allocF (t := 26) rfl rfl rfl rfl rfl rfl ?_)
          | (refine CWr.allocF (t := 26) rfl rfl rfl ?_ ?_)
          | (refine AWL.op (sl := SL) rfl rfl ?_ ?_)
          | (refine FW.float rfl rfl rfl rfl rfl ?_)
          | (refine CWr.op rfl ?_ ?_ ?_)
          | (refine CWr.assign rfl ?_ ?_)
          | (refine CWr.alloc rfl rfl rfl rfl ?_)
          | (refine CWr.build rfl rfl rfl rfl ?_ rfl rfl rfl ?_)
          | (refine AWL.frzA rfl rfl ?_)
          | (refine AWL.callV (f := 25) rfl rfl rfl rfl ?_ (Nat.le_of_ble_eq_true rfl) rfl (hlanes) ?_; (focus kernel_rfl))
          | (refine AWL.call (f := 25) rfl rfl rfl ?_ rfl (Nat.le_of_ble_eq_true rfl) rfl (hlanes) ?_; (focus kernel_rfl))
          | (refine CWr.call (f := 25) rfl ?_ rfl (hlanes) (fun _ _ h => h) ?_ ?_ ?_; (focus kernel_rfl))
          | (refine AWL.callV (f := 26) rfl rfl rfl rfl ?_ (Nat.le_of_ble_eq_true rfl) rfl (set_walk _ hs1 hs2 _ _ _ hx0) ?_; (focus kernel_rfl))
          | (refine AWL.call (f := 26) rfl rfl rfl ?_ rfl (Nat.le_of_ble_eq_true rfl) rfl (set_walk _ hs1 hs2 _ _ _ hx0) ?_; (focus kernel_rfl))
          | (refine CWr.call (f := 26) rfl ?_ rfl (set_walk _ hs1 hs2 _ _ _ hx0) (fun _ _ h => h) ?_ ?_ ?_; (focus kernel_rfl))
          | (refine AWL.callV (f := 27) rfl rfl rfl rfl ?_ (Nat.le_of_ble_eq_true rfl) rfl (hfind) ?_; (focus kernel_rfl))
          | (refine AWL.call (f := 27) rfl rfl rfl ?_ rfl (Nat.le_of_ble_eq_true rfl) rfl (hfind) ?_; (focus kernel_rfl))
          | (refine CWr.call (f := 27) rfl ?_ rfl (hfind) (fun _ _ h => h) ?_ ?_ ?_; (focus kernel_rfl))
          | (refine AWL.callV (f := 28) rfl rfl rfl rfl ?_ (Nat.le_of_ble_eq_true rfl) rfl (hwid) ?_; (focus kernel_rfl))
          | (refine AWL.call (f := 28) rfl rfl rfl ?_ rfl (Nat.le_of_ble_eq_true rfl) rfl (hwid) ?_; (focus kernel_rfl))
          | (refine CWr.call (f := 28) rfl ?_ rfl (hwid) (fun _ _ h => h) ?_ ?_ ?_; (focus kernel_rfl))
          | fail) <;> (try ((first | show AWL _ _ _ _ _ | show AW _ _ _ _ | show FW _ _ _ _ _ _ _ _ _ _ | show CW _ _ _ _ _ _ _ _ _ _ _ _ | (rintro _ _ ⟨rfl, rfl⟩; (try refine And.intro rfl ?_))); (try (conv => arg -1; simp (disch := omega) only [NSX, Nat.reduceBEq, Nat.reduceAdd, Nat.reduceMul, Int.reduceToNat, Nat.reduceSub, TY, slx, take16, drop16, dz, nums_length, S10, S11r, e5, hs1, hl2])))))
        | ((first | refine AWL.guard2 rfl rfl rfl rfl rfl rfl ?_ ?_ | refine CW.guard2 rfl rfl rfl rfl rfl rfl rfl rfl ?_ ?_) <;> (intro hc; (try simp only [Bool.not_true, Bool.not_false] at hc); first | (cases hc; done) | ((try simp only [hc]); (try simp only [beq_iff_eq, bne_iff_ne, decide_eq_true_eq, decide_eq_false_iff_not, beq_eq_false_iff_ne, bne_eq_false_iff_eq, ne_eq, Bool.not_eq_true, Bool.not_eq_false, Bool.not_eq_eq_eq_not, Bool.not_true, Bool.not_false, Decidable.not_not, Int.not_lt, Int.not_le] at hc); (try (exfalso; omega)); (try (guard_hyp hc : True; clear hc)))))
        | (refine AWL.guard2 rfl rfl rfl rfl rfl rfl (fun hc => ?_) ?_; (cases hc; done))
        | ((first | ((show AW _ (.region _ _ true) _ _); refine AW.calm false [] [] hmix (by (repeat' (first | exact panOk_end | exact panOk_endM | refine panOk_then ?_ | refine panOk_block ?_ | refine QEq.pan (by assumption) ?_))) ?_ rfl ?_; (focus (as_aux_lemma => kernel_rfl))) | refine AWL.guardU rfl rfl rfl rfl rfl rfl ?_ | refine CW.guardU rfl rfl rfl rfl rfl rfl rfl rfl ?_); (try (conv => arg -1; simp (disch := omega) only [NSX, Nat.reduceBEq, Nat.reduceAdd, Nat.reduceMul, Int.reduceToNat, Nat.reduceSub, TY, slx, take16, drop16, dz, nums_length, S10, S11r, e5, hs1, hl2])))
        | refine CW.tail rfl ?_
        | (refine AW.cond rfl (fun hc => ?_) (fun hc => ?_) <;> first | (cases hc; done) | ((try simp only [beq_iff_eq, bne_iff_ne, decide_eq_true_eq, decide_eq_false_iff_not, beq_eq_false_iff_ne, bne_eq_false_iff_eq, ne_eq, Bool.not_eq_true, Bool.not_eq_false, Bool.not_eq_eq_eq_not, Bool.not_true, Bool.not_false, Decidable.not_not, Int.not_lt, Int.not_le] at hc); (try (exfalso; omega)); (try (guard_hyp hc : True; clear hc))))
        | ((refine EndQ.mk rfl rfl rfl ?_ ?_ ?_; (focus (first | exact Or.inl rfl | exact Or.inr rfl))) <;> (try simp (disch := omega) only [NSX, Nat.reduceBEq, Nat.reduceAdd, Nat.reduceMul, Int.reduceToNat, Nat.reduceSub, TY, slx, take16, drop16, dz, nums_length, S10, S11r, e5, hs1, hl2]))
        | (focus ((first | exact trivial | omega | (refine And.intro (by kernel_rfl) (And.intro ⟨_, (by first | exact nums_ints _ _ | rfl), (by first | exact nums_ints _ _ | rfl)⟩ (And.intro ?_ ?_)) <;> (first | rfl | assumption | (simp only [nums_length]; omega) | omega)) | (refine And.intro ?_ (And.intro ?_ ?_); (focus kernel_rfl); (focus kernel_rfl); (focus kernel_rfl)) | ((show newKs _ _ _ = true); kernel_rfl) | ((show FitV _ _ _ _ _ _); (repeat' (first | exact trivial | exact Or.inr (Or.inl rfl) | exact Or.inl rfl | exact Or.inr (Or.inr rfl) | refine And.intro ?_ ?_)); done) | assumption | ((first | refine ld_nums i3 _ _ ?_ | refine ld_nums i22 _ _ ?_ | refine ld_nums i5 _ _ ?_ | refine at_nums i3 _ _ ?_ | refine at_nums i22 _ _ ?_ | refine at_nums i5 _ _ ?_); first | assumption | omega | (simp only [List.length_append]; omega)) | (show _ ≤ _; omega) | (simp only [List.length_take, List.length_drop, List.length_append, List.length_cons, List.length_nil]; omega) | ((repeat' (first | exact trivial | exact rfl | exact Nat.le_of_ble_eq_true rfl | refine And.intro ?_ ?_ | fail)); done) | ((try simp (disch := omega) only [NSX, Nat.reduceBEq, Nat.reduceAdd, Nat.reduceMul, Int.reduceToNat, Nat.reduceSub, TY, slx, take16, drop16, dz, nums_length, S10, S11r, e5, hs1, hl2]); (repeat' (first | exact trivial | exact rfl | exact ⟨_, _, rfl⟩ | exact ⟨_, rfl⟩ | exact Nat.le_of_ble_eq_true rfl | exact Nat.zero_lt_succ _ | omega | (simp only [nums_length, toB_len] at *; omega) | refine And.intro ?_ ?_ | fail)); done)); done))
        | fail)
      all_goals try simp (disch := omega) only [NSX, Nat.reduceBEq, Nat.reduceAdd, Nat.reduceMul, Int.reduceToNat, Nat.reduceSub, TY, slx, take16, drop16, dz, nums_length, S10, S11r, e5, hs1, hl2]
      all_goals first
        | exact ⟨lanes w - (i + 1), by omega, i + 1, by first | (rw [e7]; done) | (rw [e7]; rfl), by omega, rfl⟩
        | (exfalso; omega) | trace_state
    · obtain rfl : i = lanes w := by omega
      have e8 := spl_sets w x hw4
      have hl3 := spl_len w x
      have hchk : True := by simp only [TY, slx, take16, drop16, dz, nums_length, S10, S11r, hs1, e8, hl3]
      repeat' (first
        | (refine AWL.opN (sl := SL) rfl rfl rfl trivial ?_; (try (conv => arg -1; simp (disch := omega) only [NSX, Nat.reduceBEq, Nat.reduceAdd, Nat.reduceMul, Int.reduceToNat, Nat.reduceSub, TY, slx, take16, drop16, dz, nums_length, S10, S11r, hs1, e8, hl3])))
        | (refine AW.seqQ ?_; intro Qn hQn)
        | (refine AW.blockQ ?_; intro Qn hQn)
        | refine AW.region ?_
        | ((first | refine AW.skip ?_ | refine AW.ret ?_ | refine AW.exit ?_ | refine AWL.nil ?_ | refine CW.nil ?_); (repeat (first | refine QEq.mp (by assumption) ?_ | simp only [thenQ, Go.Abs.blockQ, ↓reduceIte, Nat.reduceEqDiff])))
        | refine FW.nil ?_
        | refine FW.pass rfl rfl ?_
        | refine FW.go rfl ?_
        | refine CW.skip rfl rfl ?_
        | refine CW.step rfl rfl rfl rfl rfl ?_
        | ((first
          | (refine AWL.boxF (t := 26) rfl rfl rfl rfl rfl ?_)
          | (refine AWL.allocF (t := 26) rfl rfl rfl rfl rfl rfl ?_)
          | (refine CWr.allocF (t := 26) rfl rfl rfl ?_ ?_)
          | (refine AWL.op (sl := SL) rfl rfl ?_ ?_)
          | (refine FW.float rfl rfl rfl rfl rfl ?_)
          | (refine CWr.op rfl ?_ ?_ ?_)
          | (refine CWr.assign rfl ?_ ?_)
          | (refine CWr.alloc rfl rfl rfl rfl ?_)
          | (refine CWr.build rfl rfl rfl rfl ?_ rfl rfl rfl ?_)
          | (refine AWL.frzA rfl rfl ?_)
          | (refine AWL.callV (f := 25) rfl rfl rfl rfl ?_ (Nat.le_of_ble_eq_true rfl) rfl (hlanes) ?_; (focus kernel_rfl))
          | (refine AWL.call (f := 25) rfl rfl rfl ?_ rfl (Nat.le_of_ble_eq_true rfl) rfl (hlanes) ?_; (focus kernel_rfl))
          | (refine CWr.call (f := 25) rfl ?_ rfl (hlanes) (fun _ _ h => h) ?_ ?_ ?_; (focus kernel_rfl))
          | (refine AWL.callV (f := 26) rfl rfl rfl rfl ?_ (Nat.le_of_ble_eq_true rfl) rfl (set_walk _ hs1 hs2 _ _ _ hx0) ?_; (focus kernel_rfl))
          | (refine AWL.call (f := 26) rfl rfl rfl ?_ rfl (Nat.le_of_ble_eq_true rfl) rfl (set_walk _ hs1 hs2 _ _ _ hx0) ?_; (focus kernel_rfl))
          | (refine CWr.call (f := 26) rfl ?_ rfl (set_walk _ hs1 hs2 _ _ _ hx0) (fun _ _ h => h) ?_ ?_ ?_; (focus kernel_rfl))
          | (refine AWL.callV (f := 27) rfl rfl rfl rfl ?_ (Nat.le_of_ble_eq_true rfl) rfl (hfind) ?_; (focus kernel_rfl))
          | (refine AWL.call (f := 27) rfl rfl rfl ?_ rfl (Nat.le_of_ble_eq_true rfl) rfl (hfind) ?_; (focus kernel_rfl))
          | (refine CWr.call (f := 27) rfl ?_ rfl (hfind) (fun _ _ h => h) ?_ ?_ ?_; (focus kernel_rfl))
          | (refine AWL.callV (f := 28) rfl rfl rfl rfl ?_ (Nat.le_of_ble_eq_true rfl) rfl (hwid) ?_; (focus kernel_rfl))
          | (refine AWL.call (f := 28) rfl rfl rfl ?_ rfl (Nat.le_of_ble_eq_true rfl) rfl (hwid) ?_; (focus kernel_rfl))
          | (refine CWr.call (f := 28) rfl ?_ rfl (hwid) (fun _ _ h => h) ?_ ?_ ?_; (focus kernel_rfl))
          | fail) <;> (try ((first | show AWL _ _ _ _ _ | show AW _ _ _ _ | show FW _ _ _ _ _ _ _ _ _ _ | show CW _ _ _ _ _ _ _ _ _ _ _ _ | (rintro _ _ ⟨rfl, rfl⟩; (try refine And.intro rfl ?_))); (try (conv => arg -1; simp (disch := omega) only [NSX, Nat.reduceBEq, Nat.reduceAdd, Nat.reduceMul, Int.reduceToNat, Nat.reduceSub, TY, slx, take16, drop16, dz, nums_length, S10, S11r, hs1, e8, hl3])))))
        | ((first | refine AWL.guard2 rfl rfl rfl rfl rfl rfl ?_ ?_ | refine CW.guard2 rfl rfl rfl rfl rfl rfl rfl rfl ?_ ?_) <;> (intro hc; (try simp only [Bool.not_true, Bool.not_false] at hc); first | (cases hc; done) | ((try simp only [hc]); (try simp only [beq_iff_eq, bne_iff_ne, decide_eq_true_eq, decide_eq_false_iff_not, beq_eq_false_iff_ne, bne_eq_false_iff_eq, ne_eq, Bool.not_eq_true, Bool.not_eq_false, Bool.not_eq_eq_eq_not, Bool.not_true, Bool.not_false, Decidable.not_not, Int.not_lt, Int.not_le] at hc); (try (exfalso; omega)); (try (guard_hyp hc : True; clear hc)))))
        | (refine AWL.guard2 rfl rfl rfl rfl rfl rfl (fun hc => ?_) ?_; (cases hc; done))
        | ((first | ((show AW _ (.region _ _ true) _ _); refine AW.calm false [] [] hmix (by (repeat' (first | exact panOk_end | exact panOk_endM | refine panOk_then ?_ | refine panOk_block ?_ | refine QEq.pan (by assumption) ?_))) ?_ rfl ?_; (focus (as_aux_lemma => kernel_rfl))) | refine AWL.guardU rfl rfl rfl rfl rfl rfl ?_ | refine CW.guardU rfl rfl rfl rfl rfl rfl rfl rfl ?_); (try (conv => arg -1; simp (disch := omega) only [NSX, Nat.reduceBEq, Nat.reduceAdd, Nat.reduceMul, Int.reduceToNat, Nat.reduceSub, TY, slx, take16, drop16, dz, nums_length, S10, S11r, hs1, e8, hl3])))
        | refine CW.tail rfl ?_
        | (refine AW.cond rfl (fun hc => ?_) (fun hc => ?_) <;> first | (cases hc; done) | ((try simp only [beq_iff_eq, bne_iff_ne, decide_eq_true_eq, decide_eq_false_iff_not, beq_eq_false_iff_ne, bne_eq_false_iff_eq, ne_eq, Bool.not_eq_true, Bool.not_eq_false, Bool.not_eq_eq_eq_not, Bool.not_true, Bool.not_false, Decidable.not_not, Int.not_lt, Int.not_le] at hc); (try (exfalso; omega)); (try (guard_hyp hc : True; clear hc))))
        | ((refine EndQ.mk rfl rfl rfl ?_ ?_ ?_; (focus (first | exact Or.inl rfl | exact Or.inr rfl))) <;> (try simp (disch := omega) only [NSX, Nat.reduceBEq, Nat.reduceAdd, Nat.reduceMul, Int.reduceToNat, Nat.reduceSub, TY, slx, take16, drop16, dz, nums_length, S10, S11r, hs1, e8, hl3]))
        | (focus ((first | exact trivial | omega | (refine And.intro (by kernel_rfl) (And.intro ⟨_, (by first | exact nums_ints _ _ | rfl), (by first | exact nums_ints _ _ | rfl)⟩ (And.intro ?_ ?_)) <;> (first | rfl | assumption | (simp only [nums_length]; omega) | omega)) | (refine And.intro ?_ (And.intro ?_ ?_); (focus kernel_rfl); (focus kernel_rfl); (focus kernel_rfl)) | ((show newKs _ _ _ = true); kernel_rfl) | ((show FitV _ _ _ _ _ _); (repeat' (first | exact trivial | exact Or.inr (Or.inl rfl) | exact Or.inl rfl | exact Or.inr (Or.inr rfl) | refine And.intro ?_ ?_)); done) | assumption | ((first | refine ld_nums i3 _ _ ?_ | refine ld_nums i22 _ _ ?_ | refine ld_nums i5 _ _ ?_ | refine at_nums i3 _ _ ?_ | refine at_nums i22 _ _ ?_ | refine at_nums i5 _ _ ?_); first | assumption | omega | (simp only [List.length_append]; omega)) | (show _ ≤ _; omega) | (simp only [List.length_take, List.length_drop, List.length_append, List.length_cons, List.length_nil]; omega) | ((repeat' (first | exact trivial | exact rfl | exact Nat.le_of_ble_eq_true rfl | refine And.intro ?_ ?_ | fail)); done) | ((try simp (disch := omega) only [NSX, Nat.reduceBEq, Nat.reduceAdd, Nat.reduceMul, Int.reduceToNat, Nat.reduceSub, TY, slx, take16, drop16, dz, nums_length, S10, S11r, hs1, e8, hl3]); (repeat' (first | exact trivial | exact rfl | exact ⟨_, _, rfl⟩ | exact ⟨_, rfl⟩ | exact Nat.le_of_ble_eq_true rfl | exact Nat.zero_lt_succ _ | omega | (simp only [nums_length, toB_len] at *; omega) | refine And.intro ?_ ?_ | fail)); done)); done))
        | fail)
      all_goals first | exact ⟨trivial, trivial⟩ | exact ⟨rfl, trivial⟩ | exact ⟨rfl, rfl⟩ | exact ⟨trivial, rfl⟩ | (rw [e8]; exact ⟨rfl, trivial⟩) | (exfalso; omega) | trace_state
theorem spW_no {op : Int} (h : ¬(64783 ≤ op ∧ op ≤ 64786)) : spW op = 0 := by
  unfold spW; rw [if_neg (by omega), if_neg (by omega), if_neg (by omega), if_neg (by omega)]
set_option maxHeartbeats 3200000 in
theorem splat_ok (op x : Int) (h : -9223372036854775808 ≤ op ∧ op < 9223372036854775808) (hx0 : 0 ≤ x) :
    AC Try.prog 10 [.int .i64 op, .int .u64 x] (fun r m => r = .tup [.fagg (nums .u8 (spS op x).1), .int .i64 (spS op x).2] ∧ m = []) := by
  by_cases hin : 64783 ≤ op ∧ op ≤ 64786
  · have h4 : op = 64783 ∨ op = 64784 ∨ op = 64785 ∨ op = 64786 := by omega
    rcases h4 with rfl | rfl | rfl | rfl
    · exact splat_in 64783 x 8 0 (by decide) rfl (by decide) hx0
    · exact splat_in 64784 x 16 1 (by decide) rfl (by decide) hx0
    · exact splat_in 64785 x 32 2 (by decide) rfl (by decide) hx0
    · exact splat_in 64786 x 64 3 (by decide) rfl (by decide) hx0
  · have he : spS op x = (zero16, 1) := by unfold spS; rw [if_pos (spW_no hin)]
    have hs1 : True := trivial
    have hs2 : True := trivial
    have hlanes : True := trivial
    obtain ⟨y, hy, hy2⟩ : ∃ y, IntKind.i64.wrap (IntKind.i64.wrap (op - 64768) - 15) = y ∧ (y < 0 ∨ y > 3) := ⟨_, rfl, by rw [IntKind.wrap_i64, IntKind.wrap_i64]; omega⟩
    rw [he]
    refine AC.enter Try.func10 rfl (Nat.le_of_ble_eq_true rfl) ?_
    simp only [Try.f10]
    have hchk : True := by simp only [TY, slx, take16, drop16, dz, nums_length, S10, S11r, hy]
    repeat' (first
      | (refine AWL.opN (sl := SL) rfl rfl rfl trivial ?_; (try (conv => arg -1; simp (disch := omega) only [NSX, Nat.reduceBEq, Nat.reduceAdd, Nat.reduceMul, Int.reduceToNat, Nat.reduceSub, TY, slx, take16, drop16, dz, nums_length, S10, S11r, hy])))
      | (refine AW.seqQ ?_; intro Qn hQn)
      | (refine AW.blockQ ?_; intro Qn hQn)
      | refine AW.region ?_
      | ((first | refine AW.skip ?_ | refine AW.ret ?_ | refine AW.exit ?_ | refine AWL.nil ?_ | refine CW.nil ?_); (repeat (first | refine QEq.mp (by assumption) ?_ | simp only [thenQ, Go.Abs.blockQ, ↓reduceIte, Nat.reduceEqDiff])))
      | refine FW.nil ?_
      | refine FW.pass rfl rfl ?_
      | refine FW.go rfl ?_
      | refine CW.skip rfl rfl ?_
      | refine CW.step rfl rfl rfl rfl rfl ?_
      | ((first
        | (refine AWL.boxF (t := 26) rfl rfl rfl rfl rfl ?_)
        | (refine AWL.allocF (t := 26) rfl rfl rfl rfl rfl rfl ?_)
        | (refine CWr.allocF (t := 26) rfl rfl rfl ?_ ?_)
        | (refine AWL.op (sl := SL) rfl rfl ?_ ?_)
        | (refine FW.float rfl rfl rfl rfl rfl ?_)
        | (refine CWr.op rfl ?_ ?_ ?_)
        | (refine CWr.assign rfl ?_ ?_)
        | (refine CWr.alloc rfl rfl rfl rfl ?_)
        | (refine CWr.build rfl rfl rfl rfl ?_ rfl rfl rfl ?_)
        | (refine AWL.frzA rfl rfl ?_)
        | (refine AWL.callV (f := 25) rfl rfl rfl rfl ?_ (Nat.le_of_ble_eq_true rfl) rfl (hlanes) ?_; (focus kernel_rfl))
        | (refine AWL.call (f := 25) rfl rfl rfl ?_ rfl (Nat.le_of_ble_eq_true rfl) rfl (hlanes) ?_; (focus kernel_rfl))
        | (refine CWr.call (f := 25) rfl ?_ rfl (hlanes) (fun _ _ h => h) ?_ ?_ ?_; (focus kernel_rfl))
        | (refine AWL.callV (f := 26) rfl rfl rfl rfl ?_ (Nat.le_of_ble_eq_true rfl) rfl (set_walk _ hs1 hs2 _ _ _ hx0) ?_; (focus kernel_rfl))
        | (refine AWL.call (f := 26) rfl rfl rfl ?_ rfl (Nat.le_of_ble_eq_true rfl) rfl (set_walk _ hs1 hs2 _ _ _ hx0) ?_; (focus kernel_rfl))
        | (refine CWr.call (f := 26) rfl ?_ rfl (set_walk _ hs1 hs2 _ _ _ hx0) (fun _ _ h => h) ?_ ?_ ?_; (focus kernel_rfl))
        | (refine AWL.callV (f := 27) rfl rfl rfl rfl ?_ (Nat.le_of_ble_eq_true rfl) rfl (hfind) ?_; (focus kernel_rfl))
        | (refine AWL.call (f := 27) rfl rfl rfl ?_ rfl (Nat.le_of_ble_eq_true rfl) rfl (hfind) ?_; (focus kernel_rfl))
        | (refine CWr.call (f := 27) rfl ?_ rfl (hfind) (fun _ _ h => h) ?_ ?_ ?_; (focus kernel_rfl))
        | (refine AWL.callV (f := 28) rfl rfl rfl rfl ?_ (Nat.le_of_ble_eq_true rfl) rfl (hwid) ?_; (focus kernel_rfl))
        | (refine AWL.call (f := 28) rfl rfl rfl ?_ rfl (Nat.le_of_ble_eq_true rfl) rfl (hwid) ?_; (focus kernel_rfl))
        | (refine CWr.call (f := 28) rfl ?_ rfl (hwid) (fun _ _ h => h) ?_ ?_ ?_; (focus kernel_rfl))
        | fail) <;> (try ((first | show AWL _ _ _ _ _ | show AW _ _ _ _ | show FW _ _ _ _ _ _ _ _ _ _ | show CW _ _ _ _ _ _ _ _ _ _ _ _ | (rintro _ _ ⟨rfl, rfl⟩; (try refine And.intro rfl ?_))); (try (conv => arg -1; simp (disch := omega) only [NSX, Nat.reduceBEq, Nat.reduceAdd, Nat.reduceMul, Int.reduceToNat, Nat.reduceSub, TY, slx, take16, drop16, dz, nums_length, S10, S11r, hy])))))
      | ((first | refine AWL.guard2 rfl rfl rfl rfl rfl rfl ?_ ?_ | refine CW.guard2 rfl rfl rfl rfl rfl rfl rfl rfl ?_ ?_) <;> (intro hc; (try simp only [Bool.not_true, Bool.not_false] at hc); first | (cases hc; done) | ((try simp only [hc]); (try simp only [beq_iff_eq, bne_iff_ne, decide_eq_true_eq, decide_eq_false_iff_not, beq_eq_false_iff_ne, bne_eq_false_iff_eq, ne_eq, Bool.not_eq_true, Bool.not_eq_false, Bool.not_eq_eq_eq_not, Bool.not_true, Bool.not_false, Decidable.not_not, Int.not_lt, Int.not_le] at hc); (try (exfalso; omega)); (try (guard_hyp hc : True; clear hc)))))
      | (refine AWL.guard2 rfl rfl rfl rfl rfl rfl (fun hc => ?_) ?_; (cases hc; done))
      | ((first | ((show AW _ (.region _ _ true) _ _); refine AW.calm false [] [] hmix (by (repeat' (first | exact panOk_end | exact panOk_endM | refine panOk_then ?_ | refine panOk_block ?_ | refine QEq.pan (by assumption) ?_))) ?_ rfl ?_; (focus (as_aux_lemma => kernel_rfl))) | refine AWL.guardU rfl rfl rfl rfl rfl rfl ?_ | refine CW.guardU rfl rfl rfl rfl rfl rfl rfl rfl ?_); (try (conv => arg -1; simp (disch := omega) only [NSX, Nat.reduceBEq, Nat.reduceAdd, Nat.reduceMul, Int.reduceToNat, Nat.reduceSub, TY, slx, take16, drop16, dz, nums_length, S10, S11r, hy])))
      | refine CW.tail rfl ?_
      | (refine AW.cond rfl (fun hc => ?_) (fun hc => ?_) <;> first | (cases hc; done) | ((try simp only [beq_iff_eq, bne_iff_ne, decide_eq_true_eq, decide_eq_false_iff_not, beq_eq_false_iff_ne, bne_eq_false_iff_eq, ne_eq, Bool.not_eq_true, Bool.not_eq_false, Bool.not_eq_eq_eq_not, Bool.not_true, Bool.not_false, Decidable.not_not, Int.not_lt, Int.not_le] at hc); (try (exfalso; omega)); (try (guard_hyp hc : True; clear hc))))
      | ((refine EndQ.mk rfl rfl rfl ?_ ?_ ?_; (focus (first | exact Or.inl rfl | exact Or.inr rfl))) <;> (try simp (disch := omega) only [NSX, Nat.reduceBEq, Nat.reduceAdd, Nat.reduceMul, Int.reduceToNat, Nat.reduceSub, TY, slx, take16, drop16, dz, nums_length, S10, S11r, hy]))
      | (focus ((first | exact trivial | omega | (refine And.intro (by kernel_rfl) (And.intro ⟨_, (by first | exact nums_ints _ _ | rfl), (by first | exact nums_ints _ _ | rfl)⟩ (And.intro ?_ ?_)) <;> (first | rfl | assumption | (simp only [nums_length]; omega) | omega)) | (refine And.intro ?_ (And.intro ?_ ?_); (focus kernel_rfl); (focus kernel_rfl); (focus kernel_rfl)) | ((show newKs _ _ _ = true); kernel_rfl) | ((show FitV _ _ _ _ _ _); (repeat' (first | exact trivial | exact Or.inr (Or.inl rfl) | exact Or.inl rfl | exact Or.inr (Or.inr rfl) | refine And.intro ?_ ?_)); done) | assumption | ((first | refine ld_nums i3 _ _ ?_ | refine ld_nums i22 _ _ ?_ | refine ld_nums i5 _ _ ?_ | refine at_nums i3 _ _ ?_ | refine at_nums i22 _ _ ?_ | refine at_nums i5 _ _ ?_); first | assumption | omega | (simp only [List.length_append]; omega)) | (show _ ≤ _; omega) | (simp only [List.length_take, List.length_drop, List.length_append, List.length_cons, List.length_nil]; omega) | ((repeat' (first | exact trivial | exact rfl | exact Nat.le_of_ble_eq_true rfl | refine And.intro ?_ ?_ | fail)); done) | ((try simp (disch := omega) only [NSX, Nat.reduceBEq, Nat.reduceAdd, Nat.reduceMul, Int.reduceToNat, Nat.reduceSub, TY, slx, take16, drop16, dz, nums_length, S10, S11r, hy]); (repeat' (first | exact trivial | exact rfl | exact ⟨_, _, rfl⟩ | exact ⟨_, rfl⟩ | exact Nat.le_of_ble_eq_true rfl | exact Nat.zero_lt_succ _ | omega | (simp only [nums_length, toB_len] at *; omega) | refine And.intro ?_ ?_ | fail)); done)); done))
      | fail)
    all_goals first | exact ⟨trivial, trivial⟩ | exact ⟨rfl, trivial⟩ | exact ⟨rfl, rfl⟩ | exact ⟨trivial, rfl⟩ | (exfalso; omega) | trace_state
def partR (f : Nat → Int) (k : Nat) : List Int := (List.range k).map f ++ zero16.drop k
theorem partR_len (f : Nat → Int) (k : Nat) (hk : k ≤ 16) : (partR f k).length = 16 := by simp [partR, zero16]; omega
theorem partR_set (f : Nat → Int) {k : Nat} (hk : k < 16) : setI (partR f k) k (f k) = partR f (k + 1) := by
  have e1 : ((List.range k).map f).length = k := by simp
  unfold setI partR
  rw [List.take_append_of_le_length (by omega), List.take_of_length_le (by omega), List.range_succ, List.map_append, List.drop_append, e1, List.drop_of_length_le (by omega), List.nil_append, List.drop_drop]
  rw [show k + (k + 1 - k) = k + 1 from by omega]
  simp
set_option maxHeartbeats 3200000 in
theorem rsplat_in (op x : Int) (i : Nat) (hi : i ≤ 3) (hop : op = 64783 + i) (hx0 : 0 ≤ x) :
    AC Try.prog 11 [.int .i64 op, .int .u64 x] (fun r m => r = .tup [.fagg (nums .u8 (spl (8 * 2 ^ i) x)), .int .i64 0] ∧ m = []) := by
  have hs1 : True := trivial
  have hs2 : True := trivial
  have hlanes : True := trivial
  have hi4 : i = 0 ∨ i = 1 ∨ i = 2 ∨ i = 3 := by omega
  have hfind := find_ok op 15 16 17 18 (by omega) (by omega) (by omega) (by omega)
  rw [show findS op 15 16 17 18 = i from by rw [hop]; rcases hi4 with rfl | rfl | rfl | rfl <;> decide] at hfind
  have hwid := width_ok i hi
  obtain ⟨W, hW, hW2⟩ : ∃ W : Nat, (8 * 2 ^ i : Int) = W ∧ (W = 8 ∨ W = 16 ∨ W = 32 ∨ W = 64) := by
    rcases hi4 with rfl | rfl | rfl | rfl
    · exact ⟨8, rfl, by omega⟩
    · exact ⟨16, rfl, by omega⟩
    · exact ⟨32, rfl, by omega⟩
    · exact ⟨64, rfl, by omega⟩
  rw [hW] at hwid
  rw [hW]
  refine AC.enter Try.func11 rfl (Nat.le_of_ble_eq_true rfl) ?_
  simp only [Try.f11]
  have hchk : True := by simp only [TY, slx, take16, drop16, dz, nums_length, S10, S11r]
  repeat' (first
    | (refine AWL.opN (sl := SL) rfl rfl rfl trivial ?_; (try (conv => arg -1; simp (disch := omega) only [NSX, Nat.reduceBEq, Nat.reduceAdd, Nat.reduceMul, Int.reduceToNat, Nat.reduceSub, TY, slx, take16, drop16, dz, nums_length, S10, S11r])))
    | (refine AW.seqQ ?_; intro Qn hQn)
    | (refine AW.blockQ ?_; intro Qn hQn)
    | refine AW.region ?_
    | ((first | refine AW.skip ?_ | refine AW.ret ?_ | refine AW.exit ?_ | refine AWL.nil ?_ | refine CW.nil ?_); (repeat (first | refine QEq.mp (by assumption) ?_ | simp only [thenQ, Go.Abs.blockQ, ↓reduceIte, Nat.reduceEqDiff])))
    | refine FW.nil ?_
    | refine FW.pass rfl rfl ?_
    | refine FW.go rfl ?_
    | refine CW.skip rfl rfl ?_
    | refine CW.step rfl rfl rfl rfl rfl ?_
    | ((first
      | (refine AWL.boxF (t := 26) rfl rfl rfl rfl rfl ?_)
      | (refine AWL.allocF (t := 26) rfl rfl rfl rfl rfl rfl ?_)
      | (refine CWr.allocF (t := 26) rfl rfl rfl ?_ ?_)
      | (refine AWL.op (sl := SL) rfl rfl ?_ ?_)
      | (refine FW.float rfl rfl rfl rfl rfl ?_)
      | (refine CWr.op rfl ?_ ?_ ?_)
      | (refine CWr.assign rfl ?_ ?_)
      | (refine CWr.alloc rfl rfl rfl rfl ?_)
      | (refine CWr.build rfl rfl rfl rfl ?_ rfl rfl rfl ?_)
      | (refine AWL.frzA rfl rfl ?_)
      | (refine AWL.callV (f := 25) rfl rfl rfl rfl ?_ (Nat.le_of_ble_eq_true rfl) rfl (hlanes) ?_; (focus kernel_rfl))
      | (refine AWL.call (f := 25) rfl rfl rfl ?_ rfl (Nat.le_of_ble_eq_true rfl) rfl (hlanes) ?_; (focus kernel_rfl))
      | (refine CWr.call (f := 25) rfl ?_ rfl (hlanes) (fun _ _ h => h) ?_ ?_ ?_; (focus kernel_rfl))
      | (refine AWL.callV (f := 26) rfl rfl rfl rfl ?_ (Nat.le_of_ble_eq_true rfl) rfl (set_walk _ hs1 hs2 _ _ _ hx0) ?_; (focus kernel_rfl))
      | (refine AWL.call (f := 26) rfl rfl rfl ?_ rfl (Nat.le_of_ble_eq_true rfl) rfl (set_walk _ hs1 hs2 _ _ _ hx0) ?_; (focus kernel_rfl))
      | (refine CWr.call (f := 26) rfl ?_ rfl (set_walk _ hs1 hs2 _ _ _ hx0) (fun _ _ h => h) ?_ ?_ ?_; (focus kernel_rfl))
      | (refine AWL.callV (f := 27) rfl rfl rfl rfl ?_ (Nat.le_of_ble_eq_true rfl) rfl (hfind) ?_; (focus kernel_rfl))
      | (refine AWL.call (f := 27) rfl rfl rfl ?_ rfl (Nat.le_of_ble_eq_true rfl) rfl (hfind) ?_; (focus kernel_rfl))
      | (refine CWr.call (f := 27) rfl ?_ rfl (hfind) (fun _ _ h => h) ?_ ?_ ?_; (focus kernel_rfl))
      | (refine AWL.callV (f := 28) rfl rfl rfl rfl ?_ (Nat.le_of_ble_eq_true rfl) rfl (hwid) ?_; (focus kernel_rfl))
      | (refine AWL.call (f := 28) rfl rfl rfl ?_ rfl (Nat.le_of_ble_eq_true rfl) rfl (hwid) ?_; (focus kernel_rfl))
      | (refine CWr.call (f := 28) rfl ?_ rfl (hwid) (fun _ _ h => h) ?_ ?_ ?_; (focus kernel_rfl))
      | fail) <;> (try ((first | show AWL _ _ _ _ _ | show AW _ _ _ _ | show FW _ _ _ _ _ _ _ _ _ _ | show CW _ _ _ _ _ _ _ _ _ _ _ _ | (rintro _ _ ⟨rfl, rfl⟩; (try refine And.intro rfl ?_))); (try (conv => arg -1; simp (disch := omega) only [NSX, Nat.reduceBEq, Nat.reduceAdd, Nat.reduceMul, Int.reduceToNat, Nat.reduceSub, TY, slx, take16, drop16, dz, nums_length, S10, S11r])))))
    | ((first | refine AWL.guard2 rfl rfl rfl rfl rfl rfl ?_ ?_ | refine CW.guard2 rfl rfl rfl rfl rfl rfl rfl rfl ?_ ?_) <;> (intro hc; (try simp only [Bool.not_true, Bool.not_false] at hc); first | (cases hc; done) | ((try simp only [hc]); (try simp only [beq_iff_eq, bne_iff_ne, decide_eq_true_eq, decide_eq_false_iff_not, beq_eq_false_iff_ne, bne_eq_false_iff_eq, ne_eq, Bool.not_eq_true, Bool.not_eq_false, Bool.not_eq_eq_eq_not, Bool.not_true, Bool.not_false, Decidable.not_not, Int.not_lt, Int.not_le] at hc); (try (exfalso; omega)); (try (guard_hyp hc : True; clear hc)))))
    | (refine AWL.guard2 rfl rfl rfl rfl rfl rfl (fun hc => ?_) ?_; (cases hc; done))
    | ((first | ((show AW _ (.region _ _ true) _ _); refine AW.calm false [] [] hmix (by (repeat' (first | exact panOk_end | exact panOk_endM | refine panOk_then ?_ | refine panOk_block ?_ | refine QEq.pan (by assumption) ?_))) ?_ rfl ?_; (focus (as_aux_lemma => kernel_rfl))) | refine AWL.guardU rfl rfl rfl rfl rfl rfl ?_ | refine CW.guardU rfl rfl rfl rfl rfl rfl rfl rfl ?_); (try (conv => arg -1; simp (disch := omega) only [NSX, Nat.reduceBEq, Nat.reduceAdd, Nat.reduceMul, Int.reduceToNat, Nat.reduceSub, TY, slx, take16, drop16, dz, nums_length, S10, S11r])))
    | refine CW.tail rfl ?_
    | (refine AW.cond rfl (fun hc => ?_) (fun hc => ?_) <;> first | (cases hc; done) | ((try simp only [beq_iff_eq, bne_iff_ne, decide_eq_true_eq, decide_eq_false_iff_not, beq_eq_false_iff_ne, bne_eq_false_iff_eq, ne_eq, Bool.not_eq_true, Bool.not_eq_false, Bool.not_eq_eq_eq_not, Bool.not_true, Bool.not_false, Decidable.not_not, Int.not_lt, Int.not_le] at hc); (try (exfalso; omega)); (try (guard_hyp hc : True; clear hc))))
    | ((refine EndQ.mk rfl rfl rfl ?_ ?_ ?_; (focus (first | exact Or.inl rfl | exact Or.inr rfl))) <;> (try simp (disch := omega) only [NSX, Nat.reduceBEq, Nat.reduceAdd, Nat.reduceMul, Int.reduceToNat, Nat.reduceSub, TY, slx, take16, drop16, dz, nums_length, S10, S11r]))
    | (focus ((first | exact trivial | omega | (refine And.intro (by kernel_rfl) (And.intro ⟨_, (by first | exact nums_ints _ _ | rfl), (by first | exact nums_ints _ _ | rfl)⟩ (And.intro ?_ ?_)) <;> (first | rfl | assumption | (simp only [nums_length]; omega) | omega)) | (refine And.intro ?_ (And.intro ?_ ?_); (focus kernel_rfl); (focus kernel_rfl); (focus kernel_rfl)) | ((show newKs _ _ _ = true); kernel_rfl) | ((show FitV _ _ _ _ _ _); (repeat' (first | exact trivial | exact Or.inr (Or.inl rfl) | exact Or.inl rfl | exact Or.inr (Or.inr rfl) | refine And.intro ?_ ?_)); done) | assumption | ((first | refine ld_nums i3 _ _ ?_ | refine ld_nums i22 _ _ ?_ | refine ld_nums i5 _ _ ?_ | refine at_nums i3 _ _ ?_ | refine at_nums i22 _ _ ?_ | refine at_nums i5 _ _ ?_); first | assumption | omega | (simp only [List.length_append]; omega)) | (show _ ≤ _; omega) | (simp only [List.length_take, List.length_drop, List.length_append, List.length_cons, List.length_nil]; omega) | ((repeat' (first | exact trivial | exact rfl | exact Nat.le_of_ble_eq_true rfl | refine And.intro ?_ ?_ | fail)); done) | ((try simp (disch := omega) only [NSX, Nat.reduceBEq, Nat.reduceAdd, Nat.reduceMul, Int.reduceToNat, Nat.reduceSub, TY, slx, take16, drop16, dz, nums_length, S10, S11r]); (repeat' (first | exact trivial | exact rfl | exact ⟨_, _, rfl⟩ | exact ⟨_, rfl⟩ | exact Nat.le_of_ble_eq_true rfl | exact Nat.zero_lt_succ _ | omega | (simp only [nums_length, toB_len] at *; omega) | refine And.intro ?_ ?_ | fail)); done)); done))
    | fail)
  all_goals try (exfalso; omega)
  refine AW.loop [0, 1, 4, 5, 6, 7, 8] [4, 7] (fun n st => ∃ k : Nat, st = S11r op x i k (partR (fun k => x / 2 ^ (8 * k % W) % 256) k) ∧ k ≤ 16 ∧ n = 16 - k) ?_ ?_
  · exact ⟨_, 0, rfl, Nat.zero_le _, rfl⟩
  · rintro n st ⟨k, rfl, hk, rfl⟩
    have e5 : IntKind.i64.wrap ((k : Int) + 1) = ((k + 1 : Nat) : Int) := wrap64_id _ (by omega) (by omega)
    have hpl := partR_len (fun k => x / 2 ^ (8 * k % W) % 256) k hk
    by_cases hk16 : k < 16
    · have hps := partR_set (fun k => x / 2 ^ (8 * k % W) % 256) hk16
      try simp only at hps
      have e6 : IntKind.i64.wrap ((k : Int) * 8) = ((8 * k : Nat) : Int) := by rw [wrap64_id _ (by omega) (by omega)]; omega
      have e7 : (((8 * k : Nat) : Int)).tmod (W : Int) = ((8 * k % W : Nat) : Int) := by rw [Int.tmod_eq_emod_of_nonneg (by omega)]; rfl
      have hlt : 8 * k % W < 64 := by have := Nat.mod_lt (8 * k) (show 0 < W by omega); omega
      have e8 : IntKind.u64.wrap ((8 * k % W : Nat) : Int) = ((8 * k % W : Nat) : Int) := wrap_in rfl (by omega) (by show _ < (18446744073709551616 : Int); omega)
      have e9 : x.fdiv (2 ^ min (8 * k % W) IntKind.u64.bits) = x / 2 ^ (8 * k % W) := by
        rw [show min (8 * k % W) IntKind.u64.bits = 8 * k % W from Nat.min_eq_left (by show _ ≤ 64; omega), fdiv_pow _ _ hx0]
      have e10 : IntKind.u8.wrap (x / 2 ^ (8 * k % W)) = x / 2 ^ (8 * k % W) % 256 := wrap_unsigned (k := .u8) rfl _
      have hchk : True := by simp only [TY, slx, take16, drop16, dz, nums_length, S10, S11r, e5, e6, e7, e8, e9, e10, hpl, hps]
      repeat' (first
        | (refine AWL.opN (sl := SL) rfl rfl rfl trivial ?_; (try (conv => arg -1; simp (disch := omega) only [NSX, Nat.reduceBEq, Nat.reduceAdd, Nat.reduceMul, Int.reduceToNat, Nat.reduceSub, TY, slx, take16, drop16, dz, nums_length, S10, S11r, e5, e6, e7, e8, e9, e10, hpl, hps])))
        | (refine AW.seqQ ?_; intro Qn hQn)
        | (refine AW.blockQ ?_; intro Qn hQn)
        | refine AW.region ?_
        | ((first | refine AW.skip ?_ | refine AW.ret ?_ | refine AW.exit ?_ | refine AWL.nil ?_ | refine CW.nil ?_); (repeat (first | refine QEq.mp (by assumption) ?_ | simp only [thenQ, Go.Abs.blockQ, ↓reduceIte, Nat.reduceEqDiff])))
        | refine FW.nil ?_
        | refine FW.pass rfl rfl ?_
        | refine FW.go rfl ?_
        | refine CW.skip rfl rfl ?_
        | refine CW.step rfl rfl rfl rfl rfl ?_
        | ((first
          | (refine AWL.boxF (t := 26) rfl rfl rfl rfl rfl ?_)
          | (refine AWL.allocF (t := 26) rfl rfl rfl rfl rfl rfl ?_)
          | (refine CWr.allocF (t := 26) rfl rfl rfl ?_ ?_)
          | (refine AWL.op (sl := SL) rfl rfl ?_ ?_)
          | (refine FW.float rfl rfl rfl rfl rfl ?_)
          | (refine CWr.op rfl ?_ ?_ ?_)
          | (refine CWr.assign rfl ?_ ?_)
          | (refine CWr.alloc rfl rfl rfl rfl ?_)
          | (refine CWr.build rfl rfl rfl rfl ?_ rfl rfl rfl ?_)
          | (refine AWL.frzA rfl rfl ?_)
          | (refine AWL.callV (f := 25) rfl rfl rfl rfl ?_ (Nat.le_of_ble_eq_true rfl) rfl (hlanes) ?_; (focus kernel_rfl))
          | (refine AWL.call (f := 25) rfl rfl rfl ?_ rfl (Nat.le_of_ble_eq_true rfl) rfl (hlanes) ?_; (focus kernel_rfl))
          | (refine CWr.call (f := 25) rfl ?_ rfl (hlanes) (fun _ _ h => h) ?_ ?_ ?_; (focus kernel_rfl))
          | (refine AWL.callV (f := 26) rfl rfl rfl rfl ?_ (Nat.le_of_ble_eq_true rfl) rfl (set_walk _ hs1 hs2 _ _ _ hx0) ?_; (focus kernel_rfl))
          | (refine AWL.call (f := 26) rfl rfl rfl ?_ rfl (Nat.le_of_ble_eq_true rfl) rfl (set_walk _ hs1 hs2 _ _ _ hx0) ?_; (focus kernel_rfl))
          | (refine CWr.call (f := 26) rfl ?_ rfl (set_walk _ hs1 hs2 _ _ _ hx0) (fun _ _ h => h) ?_ ?_ ?_; (focus kernel_rfl))
          | (refine AWL.callV (f := 27) rfl rfl rfl rfl ?_ (Nat.le_of_ble_eq_true rfl) rfl (hfind) ?_; (focus kernel_rfl))
          | (refine AWL.call (f := 27) rfl rfl rfl ?_ rfl (Nat.le_of_ble_eq_true rfl) rfl (hfind) ?_; (focus kernel_rfl))
          | (refine CWr.call (f := 27) rfl ?_ rfl (hfind) (fun _ _ h => h) ?_ ?_ ?_; (focus kernel_rfl))
          | (refine AWL.callV (f := 28) rfl rfl rfl rfl ?_ (Nat.le_of_ble_eq_true rfl) rfl (hwid) ?_; (focus kernel_rfl))
          | (refine AWL.call (f := 28) rfl rfl rfl ?_ rfl (Nat.le_of_ble_eq_true rfl) rfl (hwid) ?_; (focus kernel_rfl))
          | (refine CWr.call (f := 28) rfl ?_ rfl (hwid) (fun _ _ h => h) ?_ ?_ ?_; (focus kernel_rfl))
          | fail) <;> (try ((first | show AWL _ _ _ _ _ | show AW _ _ _ _ | show FW _ _ _ _ _ _ _ _ _ _ | show CW _ _ _ _ _ _ _ _ _ _ _ _ | (rintro _ _ ⟨rfl, rfl⟩; (try refine And.intro rfl ?_))); (try (conv => arg -1; simp (disch := omega) only [NSX, Nat.reduceBEq, Nat.reduceAdd, Nat.reduceMul, Int.reduceToNat, Nat.reduceSub, TY, slx, take16, drop16, dz, nums_length, S10, S11r, e5, e6, e7, e8, e9, e10, hpl, hps])))))
        | ((first | refine AWL.guard2 rfl rfl rfl rfl rfl rfl ?_ ?_ | refine CW.guard2 rfl rfl rfl rfl rfl rfl rfl rfl ?_ ?_) <;> (intro hc; (try simp only [Bool.not_true, Bool.not_false] at hc); first | (cases hc; done) | ((try simp only [hc]); (try simp only [beq_iff_eq, bne_iff_ne, decide_eq_true_eq, decide_eq_false_iff_not, beq_eq_false_iff_ne, bne_eq_false_iff_eq, ne_eq, Bool.not_eq_true, Bool.not_eq_false, Bool.not_eq_eq_eq_not, Bool.not_true, Bool.not_false, Decidable.not_not, Int.not_lt, Int.not_le] at hc); (try (exfalso; omega)); (try (guard_hyp hc : True; clear hc)))))
        | (refine AWL.guard2 rfl rfl rfl rfl rfl rfl (fun hc => ?_) ?_; (cases hc; done))
        | ((first | ((show AW _ (.region _ _ true) _ _); refine AW.calm false [] [] hmix (by (repeat' (first | exact panOk_end | exact panOk_endM | refine panOk_then ?_ | refine panOk_block ?_ | refine QEq.pan (by assumption) ?_))) ?_ rfl ?_; (focus (as_aux_lemma => kernel_rfl))) | refine AWL.guardU rfl rfl rfl rfl rfl rfl ?_ | refine CW.guardU rfl rfl rfl rfl rfl rfl rfl rfl ?_); (try (conv => arg -1; simp (disch := omega) only [NSX, Nat.reduceBEq, Nat.reduceAdd, Nat.reduceMul, Int.reduceToNat, Nat.reduceSub, TY, slx, take16, drop16, dz, nums_length, S10, S11r, e5, e6, e7, e8, e9, e10, hpl, hps])))
        | refine CW.tail rfl ?_
        | (refine AW.cond rfl (fun hc => ?_) (fun hc => ?_) <;> first | (cases hc; done) | ((try simp only [beq_iff_eq, bne_iff_ne, decide_eq_true_eq, decide_eq_false_iff_not, beq_eq_false_iff_ne, bne_eq_false_iff_eq, ne_eq, Bool.not_eq_true, Bool.not_eq_false, Bool.not_eq_eq_eq_not, Bool.not_true, Bool.not_false, Decidable.not_not, Int.not_lt, Int.not_le] at hc); (try (exfalso; omega)); (try (guard_hyp hc : True; clear hc))))
        | ((refine EndQ.mk rfl rfl rfl ?_ ?_ ?_; (focus (first | exact Or.inl rfl | exact Or.inr rfl))) <;> (try simp (disch := omega) only [NSX, Nat.reduceBEq, Nat.reduceAdd, Nat.reduceMul, Int.reduceToNat, Nat.reduceSub, TY, slx, take16, drop16, dz, nums_length, S10, S11r, e5, e6, e7, e8, e9, e10, hpl, hps]))
        | (focus ((first | exact trivial | omega | (refine And.intro (by kernel_rfl) (And.intro ⟨_, (by first | exact nums_ints _ _ | rfl), (by first | exact nums_ints _ _ | rfl)⟩ (And.intro ?_ ?_)) <;> (first | rfl | assumption | (simp only [nums_length]; omega) | omega)) | (refine And.intro ?_ (And.intro ?_ ?_); (focus kernel_rfl); (focus kernel_rfl); (focus kernel_rfl)) | ((show newKs _ _ _ = true); kernel_rfl) | ((show FitV _ _ _ _ _ _); (repeat' (first | exact trivial | exact Or.inr (Or.inl rfl) | exact Or.inl rfl | exact Or.inr (Or.inr rfl) | refine And.intro ?_ ?_)); done) | assumption | ((first | refine ld_nums i3 _ _ ?_ | refine ld_nums i22 _ _ ?_ | refine ld_nums i5 _ _ ?_ | refine at_nums i3 _ _ ?_ | refine at_nums i22 _ _ ?_ | refine at_nums i5 _ _ ?_); first | assumption | omega | (simp only [List.length_append]; omega)) | (show _ ≤ _; omega) | (simp only [List.length_take, List.length_drop, List.length_append, List.length_cons, List.length_nil]; omega) | ((repeat' (first | exact trivial | exact rfl | exact Nat.le_of_ble_eq_true rfl | refine And.intro ?_ ?_ | fail)); done) | ((try simp (disch := omega) only [NSX, Nat.reduceBEq, Nat.reduceAdd, Nat.reduceMul, Int.reduceToNat, Nat.reduceSub, TY, slx, take16, drop16, dz, nums_length, S10, S11r, e5, e6, e7, e8, e9, e10, hpl, hps]); (repeat' (first | exact trivial | exact rfl | exact ⟨_, _, rfl⟩ | exact ⟨_, rfl⟩ | exact Nat.le_of_ble_eq_true rfl | exact Nat.zero_lt_succ _ | omega | (simp only [nums_length, toB_len] at *; omega) | refine And.intro ?_ ?_ | fail)); done)); done))
        | fail)
      all_goals try simp (disch := omega) only [NSX, Nat.reduceBEq, Nat.reduceAdd, Nat.reduceMul, Int.reduceToNat, Nat.reduceSub, TY, slx, take16, drop16, dz, nums_length, S10, S11r, e5, e6, e7, e8, e9, e10, hpl, hps]
      all_goals first
        | exact ⟨16 - (k + 1), by omega, k + 1, rfl, by omega, rfl⟩
        | (exfalso; omega) | trace_state
    · obtain rfl : k = 16 := by omega
      have he : spl (W : Int) x = partR (fun k => x / 2 ^ (8 * k % W) % 256) 16 := by
        unfold spl partR; rw [Int.toNat_natCast, show zero16.drop 16 = [] from rfl, List.append_nil]
      have hchk : True := by simp only [TY, slx, take16, drop16, dz, nums_length, S10, S11r, hpl]
      repeat' (first
        | (refine AWL.opN (sl := SL) rfl rfl rfl trivial ?_; (try (conv => arg -1; simp (disch := omega) only [NSX, Nat.reduceBEq, Nat.reduceAdd, Nat.reduceMul, Int.reduceToNat, Nat.reduceSub, TY, slx, take16, drop16, dz, nums_length, S10, S11r, hpl])))
        | (refine AW.seqQ ?_; intro Qn hQn)
        | (refine AW.blockQ ?_; intro Qn hQn)
        | refine AW.region ?_
        | ((first | refine AW.skip ?_ | refine AW.ret ?_ | refine AW.exit ?_ | refine AWL.nil ?_ | refine CW.nil ?_); (repeat (first | refine QEq.mp (by assumption) ?_ | simp only [thenQ, Go.Abs.blockQ, ↓reduceIte, Nat.reduceEqDiff])))
        | refine FW.nil ?_
        | refine FW.pass rfl rfl ?_
        | refine FW.go rfl ?_
        | refine CW.skip rfl rfl ?_
        | refine CW.step rfl rfl rfl rfl rfl ?_
        | ((first
          | (refine AWL.boxF (t := 26) rfl rfl rfl rfl rfl ?_)
          | (refine AWL.allocF (t := 26) rfl rfl rfl rfl rfl rfl ?_)
          | (refine CWr.allocF (t := 26) rfl rfl rfl ?_ ?_)
          | (refine AWL.op (sl := SL) rfl rfl ?_ ?_)
          | (refine FW.float rfl rfl rfl rfl rfl ?_)
          | (refine CWr.op rfl ?_ ?_ ?_)
          | (refine CWr.assign rfl ?_ ?_)
          | (refine CWr.alloc rfl rfl rfl rfl ?_)
          | (refine CWr.build rfl rfl rfl rfl ?_ rfl rfl rfl ?_)
          | (refine AWL.frzA rfl rfl ?_)
          | (refine AWL.callV (f := 25) rfl rfl rfl rfl ?_ (Nat.le_of_ble_eq_true rfl) rfl (hlanes) ?_; (focus kernel_rfl))
          | (refine AWL.call (f := 25) rfl rfl rfl ?_ rfl (Nat.le_of_ble_eq_true rfl) rfl (hlanes) ?_; (focus kernel_rfl))
          | (refine CWr.call (f := 25) rfl ?_ rfl (hlanes) (fun _ _ h => h) ?_ ?_ ?_; (focus kernel_rfl))
          | (refine AWL.callV (f := 26) rfl rfl rfl rfl ?_ (Nat.le_of_ble_eq_true rfl) rfl (set_walk _ hs1 hs2 _ _ _ hx0) ?_; (focus kernel_rfl))
          | (refine AWL.call (f := 26) rfl rfl rfl ?_ rfl (Nat.le_of_ble_eq_true rfl) rfl (set_walk _ hs1 hs2 _ _ _ hx0) ?_; (focus kernel_rfl))
          | (refine CWr.call (f := 26) rfl ?_ rfl (set_walk _ hs1 hs2 _ _ _ hx0) (fun _ _ h => h) ?_ ?_ ?_; (focus kernel_rfl))
          | (refine AWL.callV (f := 27) rfl rfl rfl rfl ?_ (Nat.le_of_ble_eq_true rfl) rfl (hfind) ?_; (focus kernel_rfl))
          | (refine AWL.call (f := 27) rfl rfl rfl ?_ rfl (Nat.le_of_ble_eq_true rfl) rfl (hfind) ?_; (focus kernel_rfl))
          | (refine CWr.call (f := 27) rfl ?_ rfl (hfind) (fun _ _ h => h) ?_ ?_ ?_; (focus kernel_rfl))
          | (refine AWL.callV (f := 28) rfl rfl rfl rfl ?_ (Nat.le_of_ble_eq_true rfl) rfl (hwid) ?_; (focus kernel_rfl))
          | (refine AWL.call (f := 28) rfl rfl rfl ?_ rfl (Nat.le_of_ble_eq_true rfl) rfl (hwid) ?_; (focus kernel_rfl))
          | (refine CWr.call (f := 28) rfl ?_ rfl (hwid) (fun _ _ h => h) ?_ ?_ ?_; (focus kernel_rfl))
          | fail) <;> (try ((first | show AWL _ _ _ _ _ | show AW _ _ _ _ | show FW _ _ _ _ _ _ _ _ _ _ | show CW _ _ _ _ _ _ _ _ _ _ _ _ | (rintro _ _ ⟨rfl, rfl⟩; (try refine And.intro rfl ?_))); (try (conv => arg -1; simp (disch := omega) only [NSX, Nat.reduceBEq, Nat.reduceAdd, Nat.reduceMul, Int.reduceToNat, Nat.reduceSub, TY, slx, take16, drop16, dz, nums_length, S10, S11r, hpl])))))
        | ((first | refine AWL.guard2 rfl rfl rfl rfl rfl rfl ?_ ?_ | refine CW.guard2 rfl rfl rfl rfl rfl rfl rfl rfl ?_ ?_) <;> (intro hc; (try simp only [Bool.not_true, Bool.not_false] at hc); first | (cases hc; done) | ((try simp only [hc]); (try simp only [beq_iff_eq, bne_iff_ne, decide_eq_true_eq, decide_eq_false_iff_not, beq_eq_false_iff_ne, bne_eq_false_iff_eq, ne_eq, Bool.not_eq_true, Bool.not_eq_false, Bool.not_eq_eq_eq_not, Bool.not_true, Bool.not_false, Decidable.not_not, Int.not_lt, Int.not_le] at hc); (try (exfalso; omega)); (try (guard_hyp hc : True; clear hc)))))
        | (refine AWL.guard2 rfl rfl rfl rfl rfl rfl (fun hc => ?_) ?_; (cases hc; done))
        | ((first | ((show AW _ (.region _ _ true) _ _); refine AW.calm false [] [] hmix (by (repeat' (first | exact panOk_end | exact panOk_endM | refine panOk_then ?_ | refine panOk_block ?_ | refine QEq.pan (by assumption) ?_))) ?_ rfl ?_; (focus (as_aux_lemma => kernel_rfl))) | refine AWL.guardU rfl rfl rfl rfl rfl rfl ?_ | refine CW.guardU rfl rfl rfl rfl rfl rfl rfl rfl ?_); (try (conv => arg -1; simp (disch := omega) only [NSX, Nat.reduceBEq, Nat.reduceAdd, Nat.reduceMul, Int.reduceToNat, Nat.reduceSub, TY, slx, take16, drop16, dz, nums_length, S10, S11r, hpl])))
        | refine CW.tail rfl ?_
        | (refine AW.cond rfl (fun hc => ?_) (fun hc => ?_) <;> first | (cases hc; done) | ((try simp only [beq_iff_eq, bne_iff_ne, decide_eq_true_eq, decide_eq_false_iff_not, beq_eq_false_iff_ne, bne_eq_false_iff_eq, ne_eq, Bool.not_eq_true, Bool.not_eq_false, Bool.not_eq_eq_eq_not, Bool.not_true, Bool.not_false, Decidable.not_not, Int.not_lt, Int.not_le] at hc); (try (exfalso; omega)); (try (guard_hyp hc : True; clear hc))))
        | ((refine EndQ.mk rfl rfl rfl ?_ ?_ ?_; (focus (first | exact Or.inl rfl | exact Or.inr rfl))) <;> (try simp (disch := omega) only [NSX, Nat.reduceBEq, Nat.reduceAdd, Nat.reduceMul, Int.reduceToNat, Nat.reduceSub, TY, slx, take16, drop16, dz, nums_length, S10, S11r, hpl]))
        | (focus ((first | exact trivial | omega | (refine And.intro (by kernel_rfl) (And.intro ⟨_, (by first | exact nums_ints _ _ | rfl), (by first | exact nums_ints _ _ | rfl)⟩ (And.intro ?_ ?_)) <;> (first | rfl | assumption | (simp only [nums_length]; omega) | omega)) | (refine And.intro ?_ (And.intro ?_ ?_); (focus kernel_rfl); (focus kernel_rfl); (focus kernel_rfl)) | ((show newKs _ _ _ = true); kernel_rfl) | ((show FitV _ _ _ _ _ _); (repeat' (first | exact trivial | exact Or.inr (Or.inl rfl) | exact Or.inl rfl | exact Or.inr (Or.inr rfl) | refine And.intro ?_ ?_)); done) | assumption | ((first | refine ld_nums i3 _ _ ?_ | refine ld_nums i22 _ _ ?_ | refine ld_nums i5 _ _ ?_ | refine at_nums i3 _ _ ?_ | refine at_nums i22 _ _ ?_ | refine at_nums i5 _ _ ?_); first | assumption | omega | (simp only [List.length_append]; omega)) | (show _ ≤ _; omega) | (simp only [List.length_take, List.length_drop, List.length_append, List.length_cons, List.length_nil]; omega) | ((repeat' (first | exact trivial | exact rfl | exact Nat.le_of_ble_eq_true rfl | refine And.intro ?_ ?_ | fail)); done) | ((try simp (disch := omega) only [NSX, Nat.reduceBEq, Nat.reduceAdd, Nat.reduceMul, Int.reduceToNat, Nat.reduceSub, TY, slx, take16, drop16, dz, nums_length, S10, S11r, hpl]); (repeat' (first | exact trivial | exact rfl | exact ⟨_, _, rfl⟩ | exact ⟨_, rfl⟩ | exact Nat.le_of_ble_eq_true rfl | exact Nat.zero_lt_succ _ | omega | (simp only [nums_length, toB_len] at *; omega) | refine And.intro ?_ ?_ | fail)); done)); done))
        | fail)
      all_goals first | exact ⟨trivial, trivial⟩ | exact ⟨rfl, trivial⟩ | exact ⟨rfl, rfl⟩ | exact ⟨trivial, rfl⟩ | (rw [he]; exact ⟨rfl, trivial⟩) | (exfalso; omega) | trace_state
set_option maxHeartbeats 3200000 in
theorem rsplat_ok (op x : Int) (hx0 : 0 ≤ x) :
    AC Try.prog 11 [.int .i64 op, .int .u64 x] (fun r m => r = .tup [.fagg (nums .u8 (spS op x).1), .int .i64 (spS op x).2] ∧ m = []) := by
  by_cases hin : 64783 ≤ op ∧ op ≤ 64786
  · have h4 : op = 64783 ∨ op = 64784 ∨ op = 64785 ∨ op = 64786 := by omega
    rcases h4 with rfl | rfl | rfl | rfl
    · exact rsplat_in 64783 x 0 (by decide) rfl hx0
    · exact rsplat_in 64784 x 1 (by decide) rfl hx0
    · exact rsplat_in 64785 x 2 (by decide) rfl hx0
    · exact rsplat_in 64786 x 3 (by decide) rfl hx0
  · have he : spS op x = (zero16, 1) := by unfold spS; rw [if_pos (spW_no hin)]
    have hs1 : True := trivial
    have hs2 : True := trivial
    have hlanes : True := trivial
    have hwid : True := trivial
    have hfind := find_ok op 15 16 17 18 (by omega) (by omega) (by omega) (by omega)
    rw [show findS op 15 16 17 18 = -1 from by unfold findS; rw [if_neg (by omega), if_neg (by omega), if_neg (by omega), if_neg (by omega)]] at hfind
    rw [he]
    refine AC.enter Try.func11 rfl (Nat.le_of_ble_eq_true rfl) ?_
    simp only [Try.f11]
    have hchk : True := by simp only [TY, slx, take16, drop16, dz, nums_length, S10, S11r]
    repeat' (first
      | (refine AWL.opN (sl := SL) rfl rfl rfl trivial ?_; (try (conv => arg -1; simp (disch := omega) only [NSX, Nat.reduceBEq, Nat.reduceAdd, Nat.reduceMul, Int.reduceToNat, Nat.reduceSub, TY, slx, take16, drop16, dz, nums_length, S10, S11r])))
      | (refine AW.seqQ ?_; intro Qn hQn)
      | (refine AW.blockQ ?_; intro Qn hQn)
      | refine AW.region ?_
      | ((first | refine AW.skip ?_ | refine AW.ret ?_ | refine AW.exit ?_ | refine AWL.nil ?_ | refine CW.nil ?_); (repeat (first | refine QEq.mp (by assumption) ?_ | simp only [thenQ, Go.Abs.blockQ, ↓reduceIte, Nat.reduceEqDiff])))
      | refine FW.nil ?_
      | refine FW.pass rfl rfl ?_
      | refine FW.go rfl ?_
      | refine CW.skip rfl rfl ?_
      | refine CW.step rfl rfl rfl rfl rfl ?_
      | ((first
        | (refine AWL.boxF (t := 26) rfl rfl rfl rfl rfl ?_)
        | (refine AWL.allocF (t := 26) rfl rfl rfl rfl rfl rfl ?_)
        | (refine CWr.allocF (t := 26) rfl rfl rfl ?_ ?_)
        | (refine AWL.op (sl := SL) rfl rfl ?_ ?_)
        | (refine FW.float rfl rfl rfl rfl rfl ?_)
        | (refine CWr.op rfl ?_ ?_ ?_)
        | (refine CWr.assign rfl ?_ ?_)
        | (refine CWr.alloc rfl rfl rfl rfl ?_)
        | (refine CWr.build rfl rfl rfl rfl ?_ rfl rfl rfl ?_)
        | (refine AWL.frzA rfl rfl ?_)
        | (refine AWL.callV (f := 25) rfl rfl rfl rfl ?_ (Nat.le_of_ble_eq_true rfl) rfl (hlanes) ?_; (focus kernel_rfl))
        | (refine AWL.call (f := 25) rfl rfl rfl ?_ rfl (Nat.le_of_ble_eq_true rfl) rfl (hlanes) ?_; (focus kernel_rfl))
        | (refine CWr.call (f := 25) rfl ?_ rfl (hlanes) (fun _ _ h => h) ?_ ?_ ?_; (focus kernel_rfl))
        | (refine AWL.callV (f := 26) rfl rfl rfl rfl ?_ (Nat.le_of_ble_eq_true rfl) rfl (set_walk _ hs1 hs2 _ _ _ hx0) ?_; (focus kernel_rfl))
        | (refine AWL.call (f := 26) rfl rfl rfl ?_ rfl (Nat.le_of_ble_eq_true rfl) rfl (set_walk _ hs1 hs2 _ _ _ hx0) ?_; (focus kernel_rfl))
        | (refine CWr.call (f := 26) rfl ?_ rfl (set_walk _ hs1 hs2 _ _ _ hx0) (fun _ _ h => h) ?_ ?_ ?_; (focus kernel_rfl))
        | (refine AWL.callV (f := 27) rfl rfl rfl rfl ?_ (Nat.le_of_ble_eq_true rfl) rfl (hfind) ?_; (focus kernel_rfl))
        | (refine AWL.call (f := 27) rfl rfl rfl ?_ rfl (Nat.le_of_ble_eq_true rfl) rfl (hfind) ?_; (focus kernel_rfl))
        | (refine CWr.call (f := 27) rfl ?_ rfl (hfind) (fun _ _ h => h) ?_ ?_ ?_; (focus kernel_rfl))
        | (refine AWL.callV (f := 28) rfl rfl rfl rfl ?_ (Nat.le_of_ble_eq_true rfl) rfl (hwid) ?_; (focus kernel_rfl))
        | (refine AWL.call (f := 28) rfl rfl rfl ?_ rfl (Nat.le_of_ble_eq_true rfl) rfl (hwid) ?_; (focus kernel_rfl))
        | (refine CWr.call (f := 28) rfl ?_ rfl (hwid) (fun _ _ h => h) ?_ ?_ ?_; (focus kernel_rfl))
        | fail) <;> (try ((first | show AWL _ _ _ _ _ | show AW _ _ _ _ | show FW _ _ _ _ _ _ _ _ _ _ | show CW _ _ _ _ _ _ _ _ _ _ _ _ | (rintro _ _ ⟨rfl, rfl⟩; (try refine And.intro rfl ?_))); (try (conv => arg -1; simp (disch := omega) only [NSX, Nat.reduceBEq, Nat.reduceAdd, Nat.reduceMul, Int.reduceToNat, Nat.reduceSub, TY, slx, take16, drop16, dz, nums_length, S10, S11r])))))
      | ((first | refine AWL.guard2 rfl rfl rfl rfl rfl rfl ?_ ?_ | refine CW.guard2 rfl rfl rfl rfl rfl rfl rfl rfl ?_ ?_) <;> (intro hc; (try simp only [Bool.not_true, Bool.not_false] at hc); first | (cases hc; done) | ((try simp only [hc]); (try simp only [beq_iff_eq, bne_iff_ne, decide_eq_true_eq, decide_eq_false_iff_not, beq_eq_false_iff_ne, bne_eq_false_iff_eq, ne_eq, Bool.not_eq_true, Bool.not_eq_false, Bool.not_eq_eq_eq_not, Bool.not_true, Bool.not_false, Decidable.not_not, Int.not_lt, Int.not_le] at hc); (try (exfalso; omega)); (try (guard_hyp hc : True; clear hc)))))
      | (refine AWL.guard2 rfl rfl rfl rfl rfl rfl (fun hc => ?_) ?_; (cases hc; done))
      | ((first | ((show AW _ (.region _ _ true) _ _); refine AW.calm false [] [] hmix (by (repeat' (first | exact panOk_end | exact panOk_endM | refine panOk_then ?_ | refine panOk_block ?_ | refine QEq.pan (by assumption) ?_))) ?_ rfl ?_; (focus (as_aux_lemma => kernel_rfl))) | refine AWL.guardU rfl rfl rfl rfl rfl rfl ?_ | refine CW.guardU rfl rfl rfl rfl rfl rfl rfl rfl ?_); (try (conv => arg -1; simp (disch := omega) only [NSX, Nat.reduceBEq, Nat.reduceAdd, Nat.reduceMul, Int.reduceToNat, Nat.reduceSub, TY, slx, take16, drop16, dz, nums_length, S10, S11r])))
      | refine CW.tail rfl ?_
      | (refine AW.cond rfl (fun hc => ?_) (fun hc => ?_) <;> first | (cases hc; done) | ((try simp only [beq_iff_eq, bne_iff_ne, decide_eq_true_eq, decide_eq_false_iff_not, beq_eq_false_iff_ne, bne_eq_false_iff_eq, ne_eq, Bool.not_eq_true, Bool.not_eq_false, Bool.not_eq_eq_eq_not, Bool.not_true, Bool.not_false, Decidable.not_not, Int.not_lt, Int.not_le] at hc); (try (exfalso; omega)); (try (guard_hyp hc : True; clear hc))))
      | ((refine EndQ.mk rfl rfl rfl ?_ ?_ ?_; (focus (first | exact Or.inl rfl | exact Or.inr rfl))) <;> (try simp (disch := omega) only [NSX, Nat.reduceBEq, Nat.reduceAdd, Nat.reduceMul, Int.reduceToNat, Nat.reduceSub, TY, slx, take16, drop16, dz, nums_length, S10, S11r]))
      | (focus ((first | exact trivial | omega | (refine And.intro (by kernel_rfl) (And.intro ⟨_, (by first | exact nums_ints _ _ | rfl), (by first | exact nums_ints _ _ | rfl)⟩ (And.intro ?_ ?_)) <;> (first | rfl | assumption | (simp only [nums_length]; omega) | omega)) | (refine And.intro ?_ (And.intro ?_ ?_); (focus kernel_rfl); (focus kernel_rfl); (focus kernel_rfl)) | ((show newKs _ _ _ = true); kernel_rfl) | ((show FitV _ _ _ _ _ _); (repeat' (first | exact trivial | exact Or.inr (Or.inl rfl) | exact Or.inl rfl | exact Or.inr (Or.inr rfl) | refine And.intro ?_ ?_)); done) | assumption | ((first | refine ld_nums i3 _ _ ?_ | refine ld_nums i22 _ _ ?_ | refine ld_nums i5 _ _ ?_ | refine at_nums i3 _ _ ?_ | refine at_nums i22 _ _ ?_ | refine at_nums i5 _ _ ?_); first | assumption | omega | (simp only [List.length_append]; omega)) | (show _ ≤ _; omega) | (simp only [List.length_take, List.length_drop, List.length_append, List.length_cons, List.length_nil]; omega) | ((repeat' (first | exact trivial | exact rfl | exact Nat.le_of_ble_eq_true rfl | refine And.intro ?_ ?_ | fail)); done) | ((try simp (disch := omega) only [NSX, Nat.reduceBEq, Nat.reduceAdd, Nat.reduceMul, Int.reduceToNat, Nat.reduceSub, TY, slx, take16, drop16, dz, nums_length, S10, S11r]); (repeat' (first | exact trivial | exact rfl | exact ⟨_, _, rfl⟩ | exact ⟨_, rfl⟩ | exact Nat.le_of_ble_eq_true rfl | exact Nat.zero_lt_succ _ | omega | (simp only [nums_length, toB_len] at *; omega) | refine And.intro ?_ ?_ | fail)); done)); done))
      | fail)
    all_goals first | exact ⟨trivial, trivial⟩ | exact ⟨rfl, trivial⟩ | exact ⟨rfl, rfl⟩ | exact ⟨trivial, rfl⟩ | (exfalso; omega) | trace_state
end Go.Proofs.Ytgmhfbdmigfgbaa
