/- move.Extract, move.Replace. -/
import Derived.Test.YtgmhfbdmigfgbaaV5
import Derived.Test.YtgmhfbdmigfgbaaLane
import Derived.Test.YtgmhfbdmigfgbaaSigned
import Derived.Test.YtgmhfbdmigfgbaaSet
namespace Go.Proofs.Ytgmhfbdmigfgbaa
set_option linter.unusedSimpArgs false
set_option linter.unusedVariables false
open Go Go.Abs
attribute [local irreducible] AW AWL AC FW CW CWr IntKind.wrap

def exS (op i : Int) (v : List Int) : Int × Int :=
  if extW op = 0 ∨ i < 0 ∨ i ≥ lanes (extW op) then (0, 1) else if op = 64789 ∨ op = 64792 then (signed v (extW op) i % 4294967296, 0) else (get v (extW op) i, 0)
def reS (op i : Int) (v : List Int) (x : Int) : List Int × Int :=
  if repW op = 0 ∨ i < 0 ∨ i ≥ lanes (repW op) then (zero16, 1) else (set v (repW op) i x, 0)
theorem lane_ext (op : Int) : extW op = if laneP op = true then 0 else laneW op := by
  rcases op_cases op with h | h | h | h | h | h | h | h | h | h | h
  all_goals first | (subst h; simp [laneW, laneP, repW, extW]; done) | (simp [laneW, laneP, repW, extW, h]; done)
theorem lane_rep (op : Int) : repW op = if laneP op = true then laneW op else 0 := by
  rcases op_cases op with h | h | h | h | h | h | h | h | h | h | h
  all_goals first | (subst h; simp [laneW, laneP, repW, extW]; done) | (simp [laneW, laneP, repW, extW, h]; done)
theorem u32u64 (x : Int) : IntKind.u64.wrap (IntKind.u32.wrap x) = x % 4294967296 := by
  rw [IntKind.wrap_u32, IntKind.wrap_u64]; omega
set_option maxHeartbeats 3200000 in
theorem ext_ok (op i : Int) (h : -9223372036854775808 ≤ op ∧ op < 9223372036854775808) (v : List Int) (hl : v.length = 16) (hb : bytes v) :
    AC Try.prog 12 [.int .i64 op, .int .i64 i, .fagg (nums .u8 v)] (fun r m => r = .tup [.int .u64 (exS op i v).1, .int .i64 (exS op i v).2] ∧ m = []) := by
  have hlane := lane_ok op h
  have hle := lane_ext op
  have hx0 : True := trivial
  by_cases hbad : laneW op = 0 ∨ laneP op = true ∨ i < 0 ∨ i ≥ lanes (laneW op)
  · have he : exS op i v = (0, 1) := by
      unfold exS; rw [if_pos]
      rw [hle]; split
      · exact .inl rfl
      · rename_i hp
        rcases hbad with h | h | h | h
        · exact .inl h
        · exact absurd h hp
        · exact .inr (.inl h)
        · exact .inr (.inr h)
    rw [he]
    refine AC.enter Try.func12 rfl (Nat.le_of_ble_eq_true rfl) ?_
    simp only [Try.f12]
    cases hp : laneP op
    all_goals rw [hp] at hlane
    all_goals (
      have hchk : True := by simp only [TY, slx, take16, drop16, dz, nums_length, hl]
      repeat' (first
        | (refine AWL.opN (sl := SL) rfl rfl rfl trivial ?_; (try (conv => arg -1; simp (disch := omega) only [NSX, Nat.reduceBEq, Nat.reduceAdd, Nat.reduceMul, Int.reduceToNat, Nat.reduceSub, TY, slx, take16, drop16, dz, nums_length, hl])))
        | (refine AW.seqQ ?_; intro Qn hQn)
        | (refine AW.blockQ ?_; intro Qn hQn)
        | refine AW.region ?_
        | ((first | refine AW.skip ?_ | refine AW.ret ?_ | refine AW.exit ?_ | refine AWL.nil ?_ | refine CW.nil ?_); (repeat (first | refine QEq.mp (by assumption) ?_ | simp only [thenQ, Go.Abs.blockQ, ↓reduceIte, Nat.reduceEqDiff])))
        | refine FW.nil ?_
        | refine FW.pass rfl rfl ?_
        | refine FW.go rfl ?_
        | refine CW.skip rfl rfl ?_
        | refine CW.step rfl rfl rfl rfl rfl ?_
        | ((first
          | (refine AWL.boxF (t := 26) rfl rfl rfl rfl rfl ?_)
          | (refine AWL.allocF (t := 26) rfl rfl rfl rfl rfl rfl ?_)
          | (refine CWr.allocF (t := 26) rfl rfl rfl ?_ ?_)
          | (refine AWL.op (sl := SL) rfl rfl ?_ ?_)
          | (refine FW.float rfl rfl rfl rfl rfl ?_)
          | (refine CWr.op rfl ?_ ?_ ?_)
          | (refine CWr.assign rfl ?_ ?_)
          | (refine CWr.alloc rfl rfl rfl rfl ?_)
          | (refine CWr.build rfl rfl rfl rfl ?_ rfl rfl rfl ?_)
          | (refine AWL.frzA rfl rfl ?_)
          | (refine AWL.callV (f := 29) rfl rfl rfl rfl ?_ (Nat.le_of_ble_eq_true rfl) rfl (hlane) ?_; (focus kernel_rfl))
          | (refine AWL.call (f := 29) rfl rfl rfl ?_ rfl (Nat.le_of_ble_eq_true rfl) rfl (hlane) ?_; (focus kernel_rfl))
          | (refine CWr.call (f := 29) rfl ?_ rfl (hlane) (fun _ _ h => h) ?_ ?_ ?_; (focus kernel_rfl))
          | (refine AWL.callV (f := 25) rfl rfl rfl rfl ?_ (Nat.le_of_ble_eq_true rfl) rfl (lanes_ok _) ?_; (focus kernel_rfl))
          | (refine AWL.call (f := 25) rfl rfl rfl ?_ rfl (Nat.le_of_ble_eq_true rfl) rfl (lanes_ok _) ?_; (focus kernel_rfl))
          | (refine CWr.call (f := 25) rfl ?_ rfl (lanes_ok _) (fun _ _ h => h) ?_ ?_ ?_; (focus kernel_rfl))
          | (refine AWL.callV (f := 19) rfl rfl rfl rfl ?_ (Nat.le_of_ble_eq_true rfl) rfl (signed_ok _ hl hb _ _) ?_; (focus kernel_rfl))
          | (refine AWL.call (f := 19) rfl rfl rfl ?_ rfl (Nat.le_of_ble_eq_true rfl) rfl (signed_ok _ hl hb _ _) ?_; (focus kernel_rfl))
          | (refine CWr.call (f := 19) rfl ?_ rfl (signed_ok _ hl hb _ _) (fun _ _ h => h) ?_ ?_ ?_; (focus kernel_rfl))
          | (refine AWL.callV (f := 24) rfl rfl rfl rfl ?_ (Nat.le_of_ble_eq_true rfl) rfl (get_ok _ hl hb _ _) ?_; (focus kernel_rfl))
          | (refine AWL.call (f := 24) rfl rfl rfl ?_ rfl (Nat.le_of_ble_eq_true rfl) rfl (get_ok _ hl hb _ _) ?_; (focus kernel_rfl))
          | (refine CWr.call (f := 24) rfl ?_ rfl (get_ok _ hl hb _ _) (fun _ _ h => h) ?_ ?_ ?_; (focus kernel_rfl))
          | (refine AWL.callV (f := 26) rfl rfl rfl rfl ?_ (Nat.le_of_ble_eq_true rfl) rfl (set_walk _ hl hb _ _ _ hx0) ?_; (focus kernel_rfl))
          | (refine AWL.call (f := 26) rfl rfl rfl ?_ rfl (Nat.le_of_ble_eq_true rfl) rfl (set_walk _ hl hb _ _ _ hx0) ?_; (focus kernel_rfl))
          | (refine CWr.call (f := 26) rfl ?_ rfl (set_walk _ hl hb _ _ _ hx0) (fun _ _ h => h) ?_ ?_ ?_; (focus kernel_rfl))
          | fail) <;> (try ((first | show AWL _ _ _ _ _ | show AW _ _ _ _ | show FW _ _ _ _ _ _ _ _ _ _ | show CW _ _ _ _ _ _ _ _ _ _ _ _ | (rintro _ _ ⟨rfl, rfl⟩; (try refine And.intro rfl ?_))); (try (conv => arg -1; simp (disch := omega) only [NSX, Nat.reduceBEq, Nat.reduceAdd, Nat.reduceMul, Int.reduceToNat, Nat.reduceSub, TY, slx, take16, drop16, dz, nums_length, hl])))))
        | ((first | refine AWL.guard2 rfl rfl rfl rfl rfl rfl ?_ ?_ | refine CW.guard2 rfl rfl rfl rfl rfl rfl rfl rfl ?_ ?_) <;> (intro hc; (try simp only [Bool.not_true, Bool.not_false] at hc); first | (cases hc; done) | ((try simp only [hc]); (try simp only [beq_iff_eq, bne_iff_ne, decide_eq_true_eq, decide_eq_false_iff_not, beq_eq_false_iff_ne, bne_eq_false_iff_eq, ne_eq, Bool.not_eq_true, Bool.not_eq_false, Bool.not_eq_eq_eq_not, Bool.not_true, Bool.not_false, Decidable.not_not, Int.not_lt, Int.not_le] at hc); (try (exfalso; omega)); (try (guard_hyp hc : True; clear hc)))))
        | (refine AWL.guard2 rfl rfl rfl rfl rfl rfl (fun hc => ?_) ?_; (cases hc; done))
        | ((first | ((show AW _ (.region _ _ true) _ _); refine AW.calm false [] [] hmix (by (repeat' (first | exact panOk_end | exact panOk_endM | refine panOk_then ?_ | refine panOk_block ?_ | refine QEq.pan (by assumption) ?_))) ?_ rfl ?_; (focus (as_aux_lemma => kernel_rfl))) | refine AWL.guardU rfl rfl rfl rfl rfl rfl ?_ | refine CW.guardU rfl rfl rfl rfl rfl rfl rfl rfl ?_); (try (conv => arg -1; simp (disch := omega) only [NSX, Nat.reduceBEq, Nat.reduceAdd, Nat.reduceMul, Int.reduceToNat, Nat.reduceSub, TY, slx, take16, drop16, dz, nums_length, hl])))
        | refine CW.tail rfl ?_
        | (refine AW.cond rfl (fun hc => ?_) (fun hc => ?_) <;> first | (cases hc; done) | ((try simp only [beq_iff_eq, bne_iff_ne, decide_eq_true_eq, decide_eq_false_iff_not, beq_eq_false_iff_ne, bne_eq_false_iff_eq, ne_eq, Bool.not_eq_true, Bool.not_eq_false, Bool.not_eq_eq_eq_not, Bool.not_true, Bool.not_false, Decidable.not_not, Int.not_lt, Int.not_le] at hc); (try (exfalso; omega)); (try (guard_hyp hc : True; clear hc))))
        | ((refine EndQ.mk rfl rfl rfl ?_ ?_ ?_; (focus (first | exact Or.inl rfl | exact Or.inr rfl))) <;> (try simp (disch := omega) only [NSX, Nat.reduceBEq, Nat.reduceAdd, Nat.reduceMul, Int.reduceToNat, Nat.reduceSub, TY, slx, take16, drop16, dz, nums_length, hl]))
        | (focus ((first | exact trivial | omega | (refine And.intro (by kernel_rfl) (And.intro ⟨_, (by first | exact nums_ints _ _ | rfl), (by first | exact nums_ints _ _ | rfl)⟩ (And.intro ?_ ?_)) <;> (first | rfl | assumption | (simp only [nums_length]; omega) | omega)) | (refine And.intro ?_ (And.intro ?_ ?_); (focus kernel_rfl); (focus kernel_rfl); (focus kernel_rfl)) | ((show newKs _ _ _ = true); kernel_rfl) | ((show FitV _ _ _ _ _ _); (repeat' (first | exact trivial | exact Or.inr (Or.inl rfl) | exact Or.inl rfl | exact Or.inr (Or.inr rfl) | refine And.intro ?_ ?_)); done) | assumption | ((first | refine ld_nums i3 _ _ ?_ | refine ld_nums i22 _ _ ?_ | refine ld_nums i5 _ _ ?_ | refine at_nums i3 _ _ ?_ | refine at_nums i22 _ _ ?_ | refine at_nums i5 _ _ ?_); first | assumption | omega | (simp only [List.length_append]; omega)) | (show _ ≤ _; omega) | (simp only [List.length_take, List.length_drop, List.length_append, List.length_cons, List.length_nil]; omega) | ((repeat' (first | exact trivial | exact rfl | exact Nat.le_of_ble_eq_true rfl | refine And.intro ?_ ?_ | fail)); done) | ((try simp (disch := omega) only [NSX, Nat.reduceBEq, Nat.reduceAdd, Nat.reduceMul, Int.reduceToNat, Nat.reduceSub, TY, slx, take16, drop16, dz, nums_length, hl]); (repeat' (first | exact trivial | exact rfl | exact ⟨_, _, rfl⟩ | exact ⟨_, rfl⟩ | exact Nat.le_of_ble_eq_true rfl | exact Nat.zero_lt_succ _ | omega | (simp only [nums_length, toB_len] at *; omega) | refine And.intro ?_ ?_ | fail)); done)); done))
        | fail)
      all_goals first | exact ⟨rfl, trivial⟩ | exact ⟨trivial, trivial⟩ | (exfalso; simp only [hp] at hbad; omega) | (exfalso; simp [hp] at hbad; omega) | trace_state)
  · have hp : laneP op = false := by cases e : laneP op with | false => rfl | true => exact absurd (.inr (.inl e)) hbad
    have hw : laneW op ≠ 0 := fun e => hbad (.inl e)
    have hi0 : 0 ≤ i := by apply Classical.byContradiction; intro e; exact hbad (.inr (.inr (.inl (by omega))))
    have hi1 : i < lanes (laneW op) := by apply Classical.byContradiction; intro e; exact hbad (.inr (.inr (.inr (by omega))))
    rw [hp, if_neg (by decide)] at hle
    rw [hp] at hlane
    have he : exS op i v = if op = 64789 ∨ op = 64792 then (signed v (laneW op) i % 4294967296, 0) else (get v (laneW op) i, 0) := by
      unfold exS; rw [hle, if_neg (by omega)]
    have hu := u32u64 (signed v (laneW op) i)
    rw [he]
    clear he hle hbad
    refine AC.enter Try.func12 rfl (Nat.le_of_ble_eq_true rfl) ?_
    simp only [Try.f12]
    by_cases h1 : op = 64789
    · subst h1
      have hchk : True := by simp only [TY, slx, take16, drop16, dz, nums_length, hl, hu]
      repeat' (first
        | (refine AWL.opN (sl := SL) rfl rfl rfl trivial ?_; (try (conv => arg -1; simp (disch := omega) only [NSX, Nat.reduceBEq, Nat.reduceAdd, Nat.reduceMul, Int.reduceToNat, Nat.reduceSub, TY, slx, take16, drop16, dz, nums_length, hl, hu])))
        | (refine AW.seqQ ?_; intro Qn hQn)
        | (refine AW.blockQ ?_; intro Qn hQn)
        | refine AW.region ?_
        | ((first | refine AW.skip ?_ | refine AW.ret ?_ | refine AW.exit ?_ | refine AWL.nil ?_ | refine CW.nil ?_); (repeat (first | refine QEq.mp (by assumption) ?_ | simp only [thenQ, Go.Abs.blockQ, ↓reduceIte, Nat.reduceEqDiff])))
        | refine FW.nil ?_
        | refine FW.pass rfl rfl ?_
        | refine FW.go rfl ?_
        | refine CW.skip rfl rfl ?_
        | refine CW.step rfl rfl rfl rfl rfl ?_
        | ((first
          | (refine AWL.boxF (t := 26) rfl rfl rfl rfl rfl ?_)
          | (refine AWL.allocF (t := 26) rfl rfl rfl rfl rfl rfl ?_)
          | (refine CWr.allocF (t := 26) rfl rfl rfl ?_ ?_)
          | (refine AWL.op (sl := SL) rfl rfl ?_ ?_)
          | (refine FW.float rfl rfl rfl rfl rfl ?_)
          | (refine CWr.op rfl ?_ ?_ ?_)
          | (refine CWr.assign rfl ?_ ?_)
          | (refine CWr.alloc rfl rfl rfl rfl ?_)
          | (refine CWr.build rfl rfl rfl rfl ?_ rfl rfl rfl ?_)
          | (refine AWL.frzA rfl rfl ?_)
          | (refine AWL.callV (f := 29) rfl rfl rfl rfl ?_ (Nat.le_of_ble_eq_true rfl) rfl (hlane) ?_; (focus kernel_rfl))
          | (refine AWL.call (f := 29) rfl rfl rfl ?_ rfl (Nat.le_of_ble_eq_true rfl) rfl (hlane) ?_; (focus kernel_rfl))
          | (refine CWr.call (f := 29) rfl ?_ rfl (hlane) (fun _ _ h => h) ?_ ?_ ?_; (focus kernel_rfl))
          | (refine AWL.callV (f := 25) rfl rfl rfl rfl ?_ (Nat.le_of_ble_eq_true rfl) rfl (lanes_ok _) ?_; (focus kernel_rfl))
          | (refine AWL.call (f := 25) rfl rfl rfl ?_ rfl (Nat.le_of_ble_eq_true rfl) rfl (lanes_ok _) ?_; (focus kernel_rfl))
          | (refine CWr.call (f := 25) rfl ?_ rfl (lanes_ok _) (fun _ _ h => h) ?_ ?_ ?_; (focus kernel_rfl))
          | (refine AWL.callV (f := 19) rfl rfl rfl rfl ?_ (Nat.le_of_ble_eq_true rfl) rfl (signed_ok _ hl hb _ _) ?_; (focus kernel_rfl))
          | (refine AWL.call (f := 19) rfl rfl rfl ?_ rfl (Nat.le_of_ble_eq_true rfl) rfl (signed_ok _ hl hb _ _) ?_; (focus kernel_rfl))
          | (refine CWr.call (f := 19) rfl ?_ rfl (signed_ok _ hl hb _ _) (fun _ _ h => h) ?_ ?_ ?_; (focus kernel_rfl))
          | (refine AWL.callV (f := 24) rfl rfl rfl rfl ?_ (Nat.le_of_ble_eq_true rfl) rfl (get_ok _ hl hb _ _) ?_; (focus kernel_rfl))
          | (refine AWL.call (f := 24) rfl rfl rfl ?_ rfl (Nat.le_of_ble_eq_true rfl) rfl (get_ok _ hl hb _ _) ?_; (focus kernel_rfl))
          | (refine CWr.call (f := 24) rfl ?_ rfl (get_ok _ hl hb _ _) (fun _ _ h => h) ?_ ?_ ?_; (focus kernel_rfl))
          | (refine AWL.callV (f := 26) rfl rfl rfl rfl ?_ (Nat.le_of_ble_eq_true rfl) rfl (set_walk _ hl hb _ _ _ hx0) ?_; (focus kernel_rfl))
          | (refine AWL.call (f := 26) rfl rfl rfl ?_ rfl (Nat.le_of_ble_eq_true rfl) rfl (set_walk _ hl hb _ _ _ hx0) ?_; (focus kernel_rfl))
          | (refine CWr.call (f := 26) rfl ?_ rfl (set_walk _ hl hb _ _ _ hx0) (fun _ _ h => h) ?_ ?_ ?_; (focus kernel_rfl))
          | fail) <;> (try ((first | show AWL _ _ _ _ _ | show AW _ _ _ _ | show FW _ _ _ _ _ _ _ _ _ _ | show CW _ _ _ _ _ _ _ _ _ _ _ _ | (rintro _ _ ⟨rfl, rfl⟩; (try refine And.intro rfl ?_))); (try (conv => arg -1; simp (disch := omega) only [NSX, Nat.reduceBEq, Nat.reduceAdd, Nat.reduceMul, Int.reduceToNat, Nat.reduceSub, TY, slx, take16, drop16, dz, nums_length, hl, hu])))))
        | ((first | refine AWL.guard2 rfl rfl rfl rfl rfl rfl ?_ ?_ | refine CW.guard2 rfl rfl rfl rfl rfl rfl rfl rfl ?_ ?_) <;> (intro hc; (try simp only [Bool.not_true, Bool.not_false] at hc); first | (cases hc; done) | ((try simp only [hc]); (try simp only [beq_iff_eq, bne_iff_ne, decide_eq_true_eq, decide_eq_false_iff_not, beq_eq_false_iff_ne, bne_eq_false_iff_eq, ne_eq, Bool.not_eq_true, Bool.not_eq_false, Bool.not_eq_eq_eq_not, Bool.not_true, Bool.not_false, Decidable.not_not, Int.not_lt, Int.not_le] at hc); (try (exfalso; omega)); (try (guard_hyp hc : True; clear hc)))))
        | (refine AWL.guard2 rfl rfl rfl rfl rfl rfl (fun hc => ?_) ?_; (cases hc; done))
        | ((first | ((show AW _ (.region _ _ true) _ _); refine AW.calm false [] [] hmix (by (repeat' (first | exact panOk_end | exact panOk_endM | refine panOk_then ?_ | refine panOk_block ?_ | refine QEq.pan (by assumption) ?_))) ?_ rfl ?_; (focus (as_aux_lemma => kernel_rfl))) | refine AWL.guardU rfl rfl rfl rfl rfl rfl ?_ | refine CW.guardU rfl rfl rfl rfl rfl rfl rfl rfl ?_); (try (conv => arg -1; simp (disch := omega) only [NSX, Nat.reduceBEq, Nat.reduceAdd, Nat.reduceMul, Int.reduceToNat, Nat.reduceSub, TY, slx, take16, drop16, dz, nums_length, hl, hu])))
        | refine CW.tail rfl ?_
        | (refine AW.cond rfl (fun hc => ?_) (fun hc => ?_) <;> first | (cases hc; done) | ((try simp only [beq_iff_eq, bne_iff_ne, decide_eq_true_eq, decide_eq_false_iff_not, beq_eq_false_iff_ne, bne_eq_false_iff_eq, ne_eq, Bool.not_eq_true, Bool.not_eq_false, Bool.not_eq_eq_eq_not, Bool.not_true, Bool.not_false, Decidable.not_not, Int.not_lt, Int.not_le] at hc); (try (exfalso; omega)); (try (guard_hyp hc : True; clear hc))))
        | ((refine EndQ.mk rfl rfl rfl ?_ ?_ ?_; (focus (first | exact Or.inl rfl | exact Or.inr rfl))) <;> (try simp (disch := omega) only [NSX, Nat.reduceBEq, Nat.reduceAdd, Nat.reduceMul, Int.reduceToNat, Nat.reduceSub, TY, slx, take16, drop16, dz, nums_length, hl, hu]))
        | (focus ((first | exact trivial | omega | (refine And.intro (by kernel_rfl) (And.intro ⟨_, (by first | exact nums_ints _ _ | rfl), (by first | exact nums_ints _ _ | rfl)⟩ (And.intro ?_ ?_)) <;> (first | rfl | assumption | (simp only [nums_length]; omega) | omega)) | (refine And.intro ?_ (And.intro ?_ ?_); (focus kernel_rfl); (focus kernel_rfl); (focus kernel_rfl)) | ((show newKs _ _ _ = true); kernel_rfl) | ((show FitV _ _ _ _ _ _); (repeat' (first | exact trivial | exact Or.inr (Or.inl rfl) | exact Or.inl rfl | exact Or.inr (Or.inr rfl) | refine And.intro ?_ ?_)); done) | assumption | ((first | refine ld_nums i3 _ _ ?_ | refine ld_nums i22 _ _ ?_ | refine ld_nums i5 _ _ ?_ | refine at_nums i3 _ _ ?_ | refine at_nums i22 _ _ ?_ | refine at_nums i5 _ _ ?_); first | assumption | omega | (simp only [List.length_append]; omega)) | (show _ ≤ _; omega) | (simp only [List.length_take, List.length_drop, List.length_append, List.length_cons, List.length_nil]; omega) | ((repeat' (first | exact trivial | exact rfl | exact Nat.le_of_ble_eq_true rfl | refine And.intro ?_ ?_ | fail)); done) | ((try simp (disch := omega) only [NSX, Nat.reduceBEq, Nat.reduceAdd, Nat.reduceMul, Int.reduceToNat, Nat.reduceSub, TY, slx, take16, drop16, dz, nums_length, hl, hu]); (repeat' (first | exact trivial | exact rfl | exact ⟨_, _, rfl⟩ | exact ⟨_, rfl⟩ | exact Nat.le_of_ble_eq_true rfl | exact Nat.zero_lt_succ _ | omega | (simp only [nums_length, toB_len] at *; omega) | refine And.intro ?_ ?_ | fail)); done)); done))
        | fail)
      all_goals first | exact ⟨trivial, trivial⟩ | exact ⟨rfl, trivial⟩ | exact ⟨rfl, rfl⟩ | exact ⟨trivial, rfl⟩ | (exfalso; omega) | trace_state
    · by_cases h2 : op = 64792
      · subst h2
        have hchk : True := by simp only [TY, slx, take16, drop16, dz, nums_length, hl, hu]
        repeat' (first
          | (refine AWL.opN (sl := SL) rfl rfl rfl trivial ?_; (try (conv => arg -1; simp (disch := omega) only [NSX, Nat.reduceBEq, Nat.reduceAdd, Nat.reduceMul, Int.reduceToNat, Nat.reduceSub, TY, slx, take16, drop16, dz, nums_length, hl, hu])))
          | (refine AW.seqQ ?_; intro Qn hQn)
          | (refine AW.blockQ ?_; intro Qn hQn)
          | refine AW.region ?_
          | ((first | refine AW.skip ?_ | refine AW.ret ?_ | refine AW.exit ?_ | refine AWL.nil ?_ | refine CW.nil ?_); (repeat (first | refine QEq.mp (by assumption) ?_ | simp only [thenQ, Go.Abs.blockQ, ↓reduceIte, Nat.reduceEqDiff])))
          | refine FW.nil ?_
          | refine FW.pass rfl rfl ?_
          | refine FW.go rfl ?_
          | refine CW.skip rfl rfl ?_
          | refine CW.step rfl rfl rfl rfl rfl ?_
          | ((first
            | (refine AWL.boxF (t := 26) rfl rfl rfl rfl rfl ?_)
            | (refine AWL.allocF (t := 26) rfl rfl rfl rfl rfl rfl ?_)
            | (refine CWr.allocF (t := 26) rfl rfl rfl ?_ ?_)
            | (refine AWL.op (sl := SL) rfl rfl ?_ ?_)
            | (refine FW.float rfl rfl rfl rfl rfl ?_)
            | (refine CWr.op rfl ?_ ?_ ?_)
            | (refine CWr.assign rfl ?_ ?_)
            | (refine CWr.alloc rfl rfl rfl rfl ?_)
            | (refine CWr.build rfl rfl rfl rfl ?_ rfl rfl rfl ?_)
            | (refine AWL.frzA rfl rfl ?_)
            | (refine AWL.callV (f := 29) rfl rfl rfl rfl ?_ (Nat.le_of_ble_eq_true rfl) rfl (hlane) ?_; (focus kernel_rfl))
            | (refine AWL.call (f := 29) rfl rfl rfl ?_ rfl (Nat.le_of_ble_eq_true rfl) rfl (hlane) ?_; (focus kernel_rfl))
            | (refine CWr.call (f := 29) rfl ?_ rfl (hlane) (fun _ _ h => h) ?_ ?_ ?_; (focus kernel_rfl))
            | (refine AWL.callV (f := 25) rfl rfl rfl rfl ?_ (Nat.le_of_ble_eq_true rfl) rfl (lanes_ok _) ?_; (focus kernel_rfl))
            | (refine AWL.call (f := 25) rfl rfl rfl ?_ rfl (Nat.le_of_ble_eq_true rfl) rfl (lanes_ok _) ?_; (focus kernel_rfl))
            | (refine CWr.call (f := 25) rfl ?_ rfl (lanes_ok _) (fun _ _ h => h) ?_ ?_ ?_; (focus kernel_rfl))
            | (refine AWL.callV (f := 19) rfl rfl rfl rfl ?_ (Nat.le_of_ble_eq_true rfl) rfl (signed_ok _ hl hb _ _) ?_; (focus kernel_rfl))
            | (refine AWL.call (f := 19) rfl rfl rfl ?_ rfl (Nat.le_of_ble_eq_true rfl) rfl (signed_ok _ hl hb _ _) ?_; (focus kernel_rfl))
            | (refine CWr.call (f := 19) rfl ?_ rfl (signed_ok _ hl hb _ _) (fun _ _ h => h) ?_ ?_ ?_; (focus kernel_rfl))
            | (refine AWL.callV (f := 24) rfl rfl rfl rfl ?_ (Nat.le_of_ble_eq_true rfl) rfl (get_ok _ hl hb _ _) ?_; (focus kernel_rfl))
            | (refine AWL.call (f := 24) rfl rfl rfl ?_ rfl (Nat.le_of_ble_eq_true rfl) rfl (get_ok _ hl hb _ _) ?_; (focus kernel_rfl))
            | (refine CWr.call (f := 24) rfl ?_ rfl (get_ok _ hl hb _ _) (fun _ _ h => h) ?_ ?_ ?_; (focus kernel_rfl))
            | (refine AWL.callV (f := 26) rfl rfl rfl rfl ?_ (Nat.le_of_ble_eq_true rfl) rfl (set_walk _ hl hb _ _ _ hx0) ?_; (focus kernel_rfl))
            | (refine AWL.call (f := 26) rfl rfl rfl ?_ rfl (Nat.le_of_ble_eq_true rfl) rfl (set_walk _ hl hb _ _ _ hx0) ?_; (focus kernel_rfl))
            | (refine CWr.call (f := 26) rfl ?_ rfl (set_walk _ hl hb _ _ _ hx0) (fun _ _ h => h) ?_ ?_ ?_; (focus kernel_rfl))
            | fail) <;> (try ((first | show AWL _ _ _ _ _ | show AW _ _ _ _ | show FW _ _ _ _ _ _ _ _ _ _ | show CW _ _ _ _ _ _ _ _ _ _ _ _ | (rintro _ _ ⟨rfl, rfl⟩; (try refine And.intro rfl ?_))); (try (conv => arg -1; simp (disch := omega) only [NSX, Nat.reduceBEq, Nat.reduceAdd, Nat.reduceMul, Int.reduceToNat, Nat.reduceSub, TY, slx, take16, drop16, dz, nums_length, hl, hu])))))
          | ((first | refine AWL.guard2 rfl rfl rfl rfl rfl rfl ?_ ?_ | refine CW.guard2 rfl rfl rfl rfl rfl rfl rfl rfl ?_ ?_) <;> (intro hc; (try simp only [Bool.not_true, Bool.not_false] at hc); first | (cases hc; done) | ((try simp only [hc]); (try simp only [beq_iff_eq, bne_iff_ne, decide_eq_true_eq, decide_eq_false_iff_not, beq_eq_false_iff_ne, bne_eq_false_iff_eq, ne_eq, Bool.not_eq_true, Bool.not_eq_false, Bool.not_eq_eq_eq_not, Bool.not_true, Bool.not_false, Decidable.not_not, Int.not_lt, Int.not_le] at hc); (try (exfalso; omega)); (try (guard_hyp hc : True; clear hc)))))
          | (refine AWL.guard2 rfl rfl rfl rfl rfl rfl (fun hc => ?_) ?_; (cases hc; done))
          | ((first | ((show AW _ (.region _ _ true) _ _); refine AW.calm false [] [] hmix (by (repeat' (first | exact panOk_end | exact panOk_endM | refine panOk_then ?_ | refine panOk_block ?_ | refine QEq.pan (by assumption) ?_))) ?_ rfl ?_; (focus (as_aux_lemma => kernel_rfl))) | refine AWL.guardU rfl rfl rfl rfl rfl rfl ?_ | refine CW.guardU rfl rfl rfl rfl rfl rfl rfl rfl ?_); (try (conv => arg -1; simp (disch := omega) only [NSX, Nat.reduceBEq, Nat.reduceAdd, Nat.reduceMul, Int.reduceToNat, Nat.reduceSub, TY, slx, take16, drop16, dz, nums_length, hl, hu])))
          | refine CW.tail rfl ?_
          | (refine AW.cond rfl (fun hc => ?_) (fun hc => ?_) <;> first | (cases hc; done) | ((try simp only [beq_iff_eq, bne_iff_ne, decide_eq_true_eq, decide_eq_false_iff_not, beq_eq_false_iff_ne, bne_eq_false_iff_eq, ne_eq, Bool.not_eq_true, Bool.not_eq_false, Bool.not_eq_eq_eq_not, Bool.not_true, Bool.not_false, Decidable.not_not, Int.not_lt, Int.not_le] at hc); (try (exfalso; omega)); (try (guard_hyp hc : True; clear hc))))
          | ((refine EndQ.mk rfl rfl rfl ?_ ?_ ?_; (focus (first | exact Or.inl rfl | exact Or.inr rfl))) <;> (try simp (disch := omega) only [NSX, Nat.reduceBEq, Nat.reduceAdd, Nat.reduceMul, Int.reduceToNat, Nat.reduceSub, TY, slx, take16, drop16, dz, nums_length, hl, hu]))
          | (focus ((first | exact trivial | omega | (refine And.intro (by kernel_rfl) (And.intro ⟨_, (by first | exact nums_ints _ _ | rfl), (by first | exact nums_ints _ _ | rfl)⟩ (And.intro ?_ ?_)) <;> (first | rfl | assumption | (simp only [nums_length]; omega) | omega)) | (refine And.intro ?_ (And.intro ?_ ?_); (focus kernel_rfl); (focus kernel_rfl); (focus kernel_rfl)) | ((show newKs _ _ _ = true); kernel_rfl) | ((show FitV _ _ _ _ _ _); (repeat' (first | exact trivial | exact Or.inr (Or.inl rfl) | exact Or.inl rfl | exact Or.inr (Or.inr rfl) | refine And.intro ?_ ?_)); done) | assumption | ((first | refine ld_nums i3 _ _ ?_ | refine ld_nums i22 _ _ ?_ | refine ld_nums i5 _ _ ?_ | refine at_nums i3 _ _ ?_ | refine at_nums i22 _ _ ?_ | refine at_nums i5 _ _ ?_); first | assumption | omega | (simp only [List.length_append]; omega)) | (show _ ≤ _; omega) | (simp only [List.length_take, List.length_drop, List.length_append, List.length_cons, List.length_nil]; omega) | ((repeat' (first | exact trivial | exact rfl | exact Nat.le_of_ble_eq_true rfl | refine And.intro ?_ ?_ | fail)); done) | ((try simp (disch := omega) only [NSX, Nat.reduceBEq, Nat.reduceAdd, Nat.reduceMul, Int.reduceToNat, Nat.reduceSub, TY, slx, take16, drop16, dz, nums_length, hl, hu]); (repeat' (first | exact trivial | exact rfl | exact ⟨_, _, rfl⟩ | exact ⟨_, rfl⟩ | exact Nat.le_of_ble_eq_true rfl | exact Nat.zero_lt_succ _ | omega | (simp only [nums_length, toB_len] at *; omega) | refine And.intro ?_ ?_ | fail)); done)); done))
          | fail)
        all_goals first | exact ⟨trivial, trivial⟩ | exact ⟨rfl, trivial⟩ | exact ⟨rfl, rfl⟩ | exact ⟨trivial, rfl⟩ | (exfalso; omega) | trace_state
      · rw [if_neg (by omega)]
        have hchk : True := by simp only [TY, slx, take16, drop16, dz, nums_length, hl, hu]
        repeat' (first
          | (refine AWL.opN (sl := SL) rfl rfl rfl trivial ?_; (try (conv => arg -1; simp (disch := omega) only [NSX, Nat.reduceBEq, Nat.reduceAdd, Nat.reduceMul, Int.reduceToNat, Nat.reduceSub, TY, slx, take16, drop16, dz, nums_length, hl, hu])))
          | (refine AW.seqQ ?_; intro Qn hQn)
          | (refine AW.blockQ ?_; intro Qn hQn)
          | refine AW.region ?_
          | ((first | refine AW.skip ?_ | refine AW.ret ?_ | refine AW.exit ?_ | refine AWL.nil ?_ | refine CW.nil ?_); (repeat (first | refine QEq.mp (by assumption) ?_ | simp only [thenQ, Go.Abs.blockQ, ↓reduceIte, Nat.reduceEqDiff])))
          | refine FW.nil ?_
          | refine FW.pass rfl rfl ?_
          | refine FW.go rfl ?_
          | refine CW.skip rfl rfl ?_
          | refine CW.step rfl rfl rfl rfl rfl ?_
          | ((first
            | (refine AWL.boxF (t := 26) rfl rfl rfl rfl rfl ?_)
            | (refine AWL.allocF (t := 26) rfl rfl rfl rfl rfl rfl ?_)
            | (refine CWr.allocF (t := 26) rfl rfl rfl ?_ ?_)
            | (refine AWL.op (sl := SL) rfl rfl ?_ ?_)
            | (refine FW.float rfl rfl rfl rfl rfl ?_)
            | (refine CWr.op rfl ?_ ?_ ?_)
            | (refine CWr.assign rfl ?_ ?_)
            | (refine CWr.alloc rfl rfl rfl rfl ?_)
            | (refine CWr.build rfl rfl rfl rfl ?_ rfl rfl rfl ?_)
            | (refine AWL.frzA rfl rfl ?_)
            | (refine AWL.callV (f := 29) rfl rfl rfl rfl ?_ (Nat.le_of_ble_eq_true rfl) rfl (hlane) ?_; (focus kernel_rfl))
            | (refine AWL.call (f := 29) rfl rfl rfl ?_ rfl (Nat.le_of_ble_eq_true rfl) rfl (hlane) ?_; (focus kernel_rfl))
            | (refine CWr.call (f := 29) rfl ?_ rfl (hlane) (fun _ _ h => h) ?_ ?_ ?_; (focus kernel_rfl))
            | (refine AWL.callV (f := 25) rfl rfl rfl rfl ?_ (Nat.le_of_ble_eq_true rfl) rfl (lanes_ok _) ?_; (focus kernel_rfl))
            | (refine AWL.call (f := 25) rfl rfl rfl ?_ rfl (Nat.le_of_ble_eq_true rfl) rfl (lanes_ok _) ?_; (focus kernel_rfl))
            | (refine CWr.call (f := 25) rfl ?_ rfl (lanes_ok _) (fun _ _ h => h) ?_ ?_ ?_; (focus kernel_rfl))
            | (refine AWL.callV (f := 19) rfl rfl rfl rfl ?_ (Nat.le_of_ble_eq_true rfl) rfl (signed_ok _ hl hb _ _) ?_; (focus kernel_rfl))
            | (refine AWL.call (f := 19) rfl rfl rfl ?_ rfl (Nat.le_of_ble_eq_true rfl) rfl (signed_ok _ hl hb _ _) ?_; (focus kernel_rfl))
            | (refine CWr.call (f := 19) rfl ?_ rfl (signed_ok _ hl hb _ _) (fun _ _ h => h) ?_ ?_ ?_; (focus kernel_rfl))
            | (refine AWL.callV (f := 24) rfl rfl rfl rfl ?_ (Nat.le_of_ble_eq_true rfl) rfl (get_ok _ hl hb _ _) ?_; (focus kernel_rfl))
            | (refine AWL.call (f := 24) rfl rfl rfl ?_ rfl (Nat.le_of_ble_eq_true rfl) rfl (get_ok _ hl hb _ _) ?_; (focus kernel_rfl))
            | (refine CWr.call (f := 24) rfl ?_ rfl (get_ok _ hl hb _ _) (fun _ _ h => h) ?_ ?_ ?_; (focus kernel_rfl))
            | (refine AWL.callV (f := 26) rfl rfl rfl rfl ?_ (Nat.le_of_ble_eq_true rfl) rfl (set_walk _ hl hb _ _ _ hx0) ?_; (focus kernel_rfl))
            | (refine AWL.call (f := 26) rfl rfl rfl ?_ rfl (Nat.le_of_ble_eq_true rfl) rfl (set_walk _ hl hb _ _ _ hx0) ?_; (focus kernel_rfl))
            | (refine CWr.call (f := 26) rfl ?_ rfl (set_walk _ hl hb _ _ _ hx0) (fun _ _ h => h) ?_ ?_ ?_; (focus kernel_rfl))
            | fail) <;> (try ((first | show AWL _ _ _ _ _ | show AW _ _ _ _ | show FW _ _ _ _ _ _ _ _ _ _ | show CW _ _ _ _ _ _ _ _ _ _ _ _ | (rintro _ _ ⟨rfl, rfl⟩; (try refine And.intro rfl ?_))); (try (conv => arg -1; simp (disch := omega) only [NSX, Nat.reduceBEq, Nat.reduceAdd, Nat.reduceMul, Int.reduceToNat, Nat.reduceSub, TY, slx, take16, drop16, dz, nums_length, hl, hu])))))
          | ((first | refine AWL.guard2 rfl rfl rfl rfl rfl rfl ?_ ?_ | refine CW.guard2 rfl rfl rfl rfl rfl rfl rfl rfl ?_ ?_) <;> (intro hc; (try simp only [Bool.not_true, Bool.not_false] at hc); first | (cases hc; done) | ((try simp only [hc]); (try simp only [beq_iff_eq, bne_iff_ne, decide_eq_true_eq, decide_eq_false_iff_not, beq_eq_false_iff_ne, bne_eq_false_iff_eq, ne_eq, Bool.not_eq_true, Bool.not_eq_false, Bool.not_eq_eq_eq_not, Bool.not_true, Bool.not_false, Decidable.not_not, Int.not_lt, Int.not_le] at hc); (try (exfalso; omega)); (try (guard_hyp hc : True; clear hc)))))
          | (refine AWL.guard2 rfl rfl rfl rfl rfl rfl (fun hc => ?_) ?_; (cases hc; done))
          | ((first | ((show AW _ (.region _ _ true) _ _); refine AW.calm false [] [] hmix (by (repeat' (first | exact panOk_end | exact panOk_endM | refine panOk_then ?_ | refine panOk_block ?_ | refine QEq.pan (by assumption) ?_))) ?_ rfl ?_; (focus (as_aux_lemma => kernel_rfl))) | refine AWL.guardU rfl rfl rfl rfl rfl rfl ?_ | refine CW.guardU rfl rfl rfl rfl rfl rfl rfl rfl ?_); (try (conv => arg -1; simp (disch := omega) only [NSX, Nat.reduceBEq, Nat.reduceAdd, Nat.reduceMul, Int.reduceToNat, Nat.reduceSub, TY, slx, take16, drop16, dz, nums_length, hl, hu])))
          | refine CW.tail rfl ?_
          | (refine AW.cond rfl (fun hc => ?_) (fun hc => ?_) <;> first | (cases hc; done) | ((try simp only [beq_iff_eq, bne_iff_ne, decide_eq_true_eq, decide_eq_false_iff_not, beq_eq_false_iff_ne, bne_eq_false_iff_eq, ne_eq, Bool.not_eq_true, Bool.not_eq_false, Bool.not_eq_eq_eq_not, Bool.not_true, Bool.not_false, Decidable.not_not, Int.not_lt, Int.not_le] at hc); (try (exfalso; omega)); (try (guard_hyp hc : True; clear hc))))
          | ((refine EndQ.mk rfl rfl rfl ?_ ?_ ?_; (focus (first | exact Or.inl rfl | exact Or.inr rfl))) <;> (try simp (disch := omega) only [NSX, Nat.reduceBEq, Nat.reduceAdd, Nat.reduceMul, Int.reduceToNat, Nat.reduceSub, TY, slx, take16, drop16, dz, nums_length, hl, hu]))
          | (focus ((first | exact trivial | omega | (refine And.intro (by kernel_rfl) (And.intro ⟨_, (by first | exact nums_ints _ _ | rfl), (by first | exact nums_ints _ _ | rfl)⟩ (And.intro ?_ ?_)) <;> (first | rfl | assumption | (simp only [nums_length]; omega) | omega)) | (refine And.intro ?_ (And.intro ?_ ?_); (focus kernel_rfl); (focus kernel_rfl); (focus kernel_rfl)) | ((show newKs _ _ _ = true); kernel_rfl) | ((show FitV _ _ _ _ _ _); (repeat' (first | exact trivial | exact Or.inr (Or.inl rfl) | exact Or.inl rfl | exact Or.inr (Or.inr rfl) | refine And.intro ?_ ?_)); done) | assumption | ((first | refine ld_nums i3 _ _ ?_ | refine ld_nums i22 _ _ ?_ | refine ld_nums i5 _ _ ?_ | refine at_nums i3 _ _ ?_ | refine at_nums i22 _ _ ?_ | refine at_nums i5 _ _ ?_); first | assumption | omega | (simp only [List.length_append]; omega)) | (show _ ≤ _; omega) | (simp only [List.length_take, List.length_drop, List.length_append, List.length_cons, List.length_nil]; omega) | ((repeat' (first | exact trivial | exact rfl | exact Nat.le_of_ble_eq_true rfl | refine And.intro ?_ ?_ | fail)); done) | ((try simp (disch := omega) only [NSX, Nat.reduceBEq, Nat.reduceAdd, Nat.reduceMul, Int.reduceToNat, Nat.reduceSub, TY, slx, take16, drop16, dz, nums_length, hl, hu]); (repeat' (first | exact trivial | exact rfl | exact ⟨_, _, rfl⟩ | exact ⟨_, rfl⟩ | exact Nat.le_of_ble_eq_true rfl | exact Nat.zero_lt_succ _ | omega | (simp only [nums_length, toB_len] at *; omega) | refine And.intro ?_ ?_ | fail)); done)); done))
          | fail)
        all_goals first | exact ⟨trivial, trivial⟩ | exact ⟨rfl, trivial⟩ | exact ⟨rfl, rfl⟩ | exact ⟨trivial, rfl⟩ | (exfalso; omega) | trace_state
set_option maxHeartbeats 3200000 in
theorem rep_ok (op i : Int) (h : -9223372036854775808 ≤ op ∧ op < 9223372036854775808) (v : List Int) (hl : v.length = 16) (hb : bytes v) (x : Int) (hx0 : 0 ≤ x) :
    AC Try.prog 14 [.int .i64 op, .int .i64 i, .fagg (nums .u8 v), .int .u64 x] (fun r m => r = .tup [.fagg (nums .u8 (reS op i v x).1), .int .i64 (reS op i v x).2] ∧ m = []) := by
  have hlane := lane_ok op h
  have hle := lane_rep op
  by_cases hbad : laneW op = 0 ∨ laneP op = false ∨ i < 0 ∨ i ≥ lanes (laneW op)
  · have he : reS op i v x = (zero16, 1) := by
      unfold reS; rw [if_pos]
      rw [hle]
      cases hp : laneP op with
      | false => exact .inl rfl
      | true =>
        rw [if_pos rfl]
        rcases hbad with h | h | h | h
        · exact .inl h
        · rw [hp] at h; cases h
        · exact .inr (.inl h)
        · exact .inr (.inr h)
    rw [he]
    refine AC.enter Try.func14 rfl (Nat.le_of_ble_eq_true rfl) ?_
    simp only [Try.f14]
    cases hp : laneP op
    all_goals rw [hp] at hlane
    all_goals (
      have hchk : True := by simp only [TY, slx, take16, drop16, dz, nums_length, hl]
      repeat' (first
        | (refine AWL.opN (sl := SL) rfl rfl rfl trivial ?_; (try (conv => arg -1; simp (disch := omega) only [NSX, Nat.reduceBEq, Nat.reduceAdd, Nat.reduceMul, Int.reduceToNat, Nat.reduceSub, TY, slx, take16, drop16, dz, nums_length, hl])))
        | (refine AW.seqQ ?_; intro Qn hQn)
        | (refine AW.blockQ ?_; intro Qn hQn)
        | refine AW.region ?_
        | ((first | refine AW.skip ?_ | refine AW.ret ?_ | refine AW.exit ?_ | refine AWL.nil ?_ | refine CW.nil ?_); (repeat (first | refine QEq.mp (by assumption) ?_ | simp only [thenQ, Go.Abs.blockQ, ↓reduceIte, Nat.reduceEqDiff])))
        | refine FW.nil ?_
        | refine FW.pass rfl rfl ?_
        | refine FW.go rfl ?_
        | refine CW.skip rfl rfl ?_
        | refine CW.step rfl rfl rfl rfl rfl ?_
        | ((first
          | (refine AWL.boxF (t := 26) rfl rfl rfl rfl rfl ?_)
          | (refine AWL.allocF (t := 26) rfl rfl rfl rfl rfl rfl ?_)
          | (refine CWr.allocF (t := 26) rfl rfl rfl ?_ ?_)
          | (refine AWL.op (sl := SL) rfl rfl ?_ ?_)
          | (refine FW.float rfl rfl rfl rfl rfl ?_)
          | (refine CWr.op rfl ?_ ?_ ?_)
          | (refine CWr.assign rfl ?_ ?_)
          | (refine CWr.alloc rfl rfl rfl rfl ?_)
          | (refine CWr.build rfl rfl rfl rfl ?_ rfl rfl rfl ?_)
          | (refine AWL.frzA rfl rfl ?_)
          | (refine AWL.callV (f := 29) rfl rfl rfl rfl ?_ (Nat.le_of_ble_eq_true rfl) rfl (hlane) ?_; (focus kernel_rfl))
          | (refine AWL.call (f := 29) rfl rfl rfl ?_ rfl (Nat.le_of_ble_eq_true rfl) rfl (hlane) ?_; (focus kernel_rfl))
          | (refine CWr.call (f := 29) rfl ?_ rfl (hlane) (fun _ _ h => h) ?_ ?_ ?_; (focus kernel_rfl))
          | (refine AWL.callV (f := 25) rfl rfl rfl rfl ?_ (Nat.le_of_ble_eq_true rfl) rfl (lanes_ok _) ?_; (focus kernel_rfl))
          | (refine AWL.call (f := 25) rfl rfl rfl ?_ rfl (Nat.le_of_ble_eq_true rfl) rfl (lanes_ok _) ?_; (focus kernel_rfl))
          | (refine CWr.call (f := 25) rfl ?_ rfl (lanes_ok _) (fun _ _ h => h) ?_ ?_ ?_; (focus kernel_rfl))
          | (refine AWL.callV (f := 19) rfl rfl rfl rfl ?_ (Nat.le_of_ble_eq_true rfl) rfl (signed_ok _ hl hb _ _) ?_; (focus kernel_rfl))
          | (refine AWL.call (f := 19) rfl rfl rfl ?_ rfl (Nat.le_of_ble_eq_true rfl) rfl (signed_ok _ hl hb _ _) ?_; (focus kernel_rfl))
          | (refine CWr.call (f := 19) rfl ?_ rfl (signed_ok _ hl hb _ _) (fun _ _ h => h) ?_ ?_ ?_; (focus kernel_rfl))
          | (refine AWL.callV (f := 24) rfl rfl rfl rfl ?_ (Nat.le_of_ble_eq_true rfl) rfl (get_ok _ hl hb _ _) ?_; (focus kernel_rfl))
          | (refine AWL.call (f := 24) rfl rfl rfl ?_ rfl (Nat.le_of_ble_eq_true rfl) rfl (get_ok _ hl hb _ _) ?_; (focus kernel_rfl))
          | (refine CWr.call (f := 24) rfl ?_ rfl (get_ok _ hl hb _ _) (fun _ _ h => h) ?_ ?_ ?_; (focus kernel_rfl))
          | (refine AWL.callV (f := 26) rfl rfl rfl rfl ?_ (Nat.le_of_ble_eq_true rfl) rfl (set_walk _ hl hb _ _ _ hx0) ?_; (focus kernel_rfl))
          | (refine AWL.call (f := 26) rfl rfl rfl ?_ rfl (Nat.le_of_ble_eq_true rfl) rfl (set_walk _ hl hb _ _ _ hx0) ?_; (focus kernel_rfl))
          | (refine CWr.call (f := 26) rfl ?_ rfl (set_walk _ hl hb _ _ _ hx0) (fun _ _ h => h) ?_ ?_ ?_; (focus kernel_rfl))
          | fail) <;> (try ((first | show AWL _ _ _ _ _ | show AW _ _ _ _ | show FW _ _ _ _ _ _ _ _ _ _ | show CW _ _ _ _ _ _ _ _ _ _ _ _ | (rintro _ _ ⟨rfl, rfl⟩; (try refine And.intro rfl ?_))); (try (conv => arg -1; simp (disch := omega) only [NSX, Nat.reduceBEq, Nat.reduceAdd, Nat.reduceMul, Int.reduceToNat, Nat.reduceSub, TY, slx, take16, drop16, dz, nums_length, hl])))))
        | ((first | refine AWL.guard2 rfl rfl rfl rfl rfl rfl ?_ ?_ | refine CW.guard2 rfl rfl rfl rfl rfl rfl rfl rfl ?_ ?_) <;> (intro hc; (try simp only [Bool.not_true, Bool.not_false] at hc); first | (cases hc; done) | ((try simp only [hc]); (try simp only [beq_iff_eq, bne_iff_ne, decide_eq_true_eq, decide_eq_false_iff_not, beq_eq_false_iff_ne, bne_eq_false_iff_eq, ne_eq, Bool.not_eq_true, Bool.not_eq_false, Bool.not_eq_eq_eq_not, Bool.not_true, Bool.not_false, Decidable.not_not, Int.not_lt, Int.not_le] at hc); (try (exfalso; omega)); (try (guard_hyp hc : True; clear hc)))))
        | (refine AWL.guard2 rfl rfl rfl rfl rfl rfl (fun hc => ?_) ?_; (cases hc; done))
        | ((first | ((show AW _ (.region _ _ true) _ _); refine AW.calm false [] [] hmix (by (repeat' (first | exact panOk_end | exact panOk_endM | refine panOk_then ?_ | refine panOk_block ?_ | refine QEq.pan (by assumption) ?_))) ?_ rfl ?_; (focus (as_aux_lemma => kernel_rfl))) | refine AWL.guardU rfl rfl rfl rfl rfl rfl ?_ | refine CW.guardU rfl rfl rfl rfl rfl rfl rfl rfl ?_); (try (conv => arg -1; simp (disch := omega) only [NSX, Nat.reduceBEq, Nat.reduceAdd, Nat.reduceMul, Int.reduceToNat, Nat.reduceSub, TY, slx, take16, drop16, dz, nums_length, hl])))
        | refine CW.tail rfl ?_
        | (refine AW.cond rfl (fun hc => ?_) (fun hc => ?_) <;> first | (cases hc; done) | ((try simp only [beq_iff_eq, bne_iff_ne, decide_eq_true_eq, decide_eq_false_iff_not, beq_eq_false_iff_ne, bne_eq_false_iff_eq, ne_eq, Bool.not_eq_true, Bool.not_eq_false, Bool.not_eq_eq_eq_not, Bool.not_true, Bool.not_false, Decidable.not_not, Int.not_lt, Int.not_le] at hc); (try (exfalso; omega)); (try (guard_hyp hc : True; clear hc))))
        | ((refine EndQ.mk rfl rfl rfl ?_ ?_ ?_; (focus (first | exact Or.inl rfl | exact Or.inr rfl))) <;> (try simp (disch := omega) only [NSX, Nat.reduceBEq, Nat.reduceAdd, Nat.reduceMul, Int.reduceToNat, Nat.reduceSub, TY, slx, take16, drop16, dz, nums_length, hl]))
        | (focus ((first | exact trivial | omega | (refine And.intro (by kernel_rfl) (And.intro ⟨_, (by first | exact nums_ints _ _ | rfl), (by first | exact nums_ints _ _ | rfl)⟩ (And.intro ?_ ?_)) <;> (first | rfl | assumption | (simp only [nums_length]; omega) | omega)) | (refine And.intro ?_ (And.intro ?_ ?_); (focus kernel_rfl); (focus kernel_rfl); (focus kernel_rfl)) | ((show newKs _ _ _ = true); kernel_rfl) | ((show FitV _ _ _ _ _ _); (repeat' (first | exact trivial | exact Or.inr (Or.inl rfl) | exact Or.inl rfl | exact Or.inr (Or.inr rfl) | refine And.intro ?_ ?_)); done) | assumption | ((first | refine ld_nums i3 _ _ ?_ | refine ld_nums i22 _ _ ?_ | refine ld_nums i5 _ _ ?_ | refine at_nums i3 _ _ ?_ | refine at_nums i22 _ _ ?_ | refine at_nums i5 _ _ ?_); first | assumption | omega | (simp only [List.length_append]; omega)) | (show _ ≤ _; omega) | (simp only [List.length_take, List.length_drop, List.length_append, List.length_cons, List.length_nil]; omega) | ((repeat' (first | exact trivial | exact rfl | exact Nat.le_of_ble_eq_true rfl | refine And.intro ?_ ?_ | fail)); done) | ((try simp (disch := omega) only [NSX, Nat.reduceBEq, Nat.reduceAdd, Nat.reduceMul, Int.reduceToNat, Nat.reduceSub, TY, slx, take16, drop16, dz, nums_length, hl]); (repeat' (first | exact trivial | exact rfl | exact ⟨_, _, rfl⟩ | exact ⟨_, rfl⟩ | exact Nat.le_of_ble_eq_true rfl | exact Nat.zero_lt_succ _ | omega | (simp only [nums_length, toB_len] at *; omega) | refine And.intro ?_ ?_ | fail)); done)); done))
        | fail)
      all_goals first | exact ⟨rfl, trivial⟩ | exact ⟨trivial, trivial⟩ | (exfalso; simp only [hp] at hbad; omega) | (exfalso; simp [hp] at hbad; omega) | trace_state)
  · have hp : laneP op = true := by cases e : laneP op with | true => rfl | false => exact absurd (.inr (.inl e)) hbad
    have hw : laneW op ≠ 0 := fun e => hbad (.inl e)
    have hi0 : 0 ≤ i := by apply Classical.byContradiction; intro e; exact hbad (.inr (.inr (.inl (by omega))))
    have hi1 : i < lanes (laneW op) := by apply Classical.byContradiction; intro e; exact hbad (.inr (.inr (.inr (by omega))))
    rw [hp, if_pos rfl] at hle
    rw [hp] at hlane
    have he : reS op i v x = (set v (laneW op) i x, 0) := by
      unfold reS; rw [hle, if_neg (by omega)]
    have hS1 : (set v (laneW op) i x).length = 16 := (set_ok (laneW op) i x hl hb).1
    rw [he]
    clear he hle hbad
    refine AC.enter Try.func14 rfl (Nat.le_of_ble_eq_true rfl) ?_
    simp only [Try.f14]
    have hchk : True := by simp only [TY, slx, take16, drop16, dz, nums_length, hl, hS1, take16]
    repeat' (first
      | (refine AWL.opN (sl := SL) rfl rfl rfl trivial ?_; (try (conv => arg -1; simp (disch := omega) only [NSX, Nat.reduceBEq, Nat.reduceAdd, Nat.reduceMul, Int.reduceToNat, Nat.reduceSub, TY, slx, take16, drop16, dz, nums_length, hl, hS1, take16])))
      | (refine AW.seqQ ?_; intro Qn hQn)
      | (refine AW.blockQ ?_; intro Qn hQn)
      | refine AW.region ?_
      | ((first | refine AW.skip ?_ | refine AW.ret ?_ | refine AW.exit ?_ | refine AWL.nil ?_ | refine CW.nil ?_); (repeat (first | refine QEq.mp (by assumption) ?_ | simp only [thenQ, Go.Abs.blockQ, ↓reduceIte, Nat.reduceEqDiff])))
      | refine FW.nil ?_
      | refine FW.pass rfl rfl ?_
      | refine FW.go rfl ?_
      | refine CW.skip rfl rfl ?_
      | refine CW.step rfl rfl rfl rfl rfl ?_
      | ((first
        | (refine AWL.boxF (t := 26) rfl rfl rfl rfl rfl ?_)
        | (refine AWL.allocF (t := 26) rfl rfl rfl rfl rfl rfl ?_)
        | (refine CWr.allocF (t := 26) rfl rfl rfl ?_ ?_)
        | (refine AWL.op (sl := SL) rfl rfl ?_ ?_)
        | (refine FW.float rfl rfl rfl rfl rfl ?_)
        | (refine CWr.op rfl ?_ ?_ ?_)
        | (refine CWr.assign rfl ?_ ?_)
        | (refine CWr.alloc rfl rfl rfl rfl ?_)
        | (refine CWr.build rfl rfl rfl rfl ?_ rfl rfl rfl ?_)
        | (refine AWL.frzA rfl rfl ?_)
        | (refine AWL.callV (f := 29) rfl rfl rfl rfl ?_ (Nat.le_of_ble_eq_true rfl) rfl (hlane) ?_; (focus kernel_rfl))
        | (refine AWL.call (f := 29) rfl rfl rfl ?_ rfl (Nat.le_of_ble_eq_true rfl) rfl (hlane) ?_; (focus kernel_rfl))
        | (refine CWr.call (f := 29) rfl ?_ rfl (hlane) (fun _ _ h => h) ?_ ?_ ?_; (focus kernel_rfl))
        | (refine AWL.callV (f := 25) rfl rfl rfl rfl ?_ (Nat.le_of_ble_eq_true rfl) rfl (lanes_ok _) ?_; (focus kernel_rfl))
        | (refine AWL.call (f := 25) rfl rfl rfl ?_ rfl (Nat.le_of_ble_eq_true rfl) rfl (lanes_ok _) ?_; (focus kernel_rfl))
        | (refine CWr.call (f := 25) rfl ?_ rfl (lanes_ok _) (fun _ _ h => h) ?_ ?_ ?_; (focus kernel_rfl))
        | (refine AWL.callV (f := 19) rfl rfl rfl rfl ?_ (Nat.le_of_ble_eq_true rfl) rfl (signed_ok _ hl hb _ _) ?_; (focus kernel_rfl))
        | (refine AWL.call (f := 19) rfl rfl rfl ?_ rfl (Nat.le_of_ble_eq_true rfl) rfl (signed_ok _ hl hb _ _) ?_; (focus kernel_rfl))
        | (refine CWr.call (f := 19) rfl ?_ rfl (signed_ok _ hl hb _ _) (fun _ _ h => h) ?_ ?_ ?_; (focus kernel_rfl))
        | (refine AWL.callV (f := 24) rfl rfl rfl rfl ?_ (Nat.le_of_ble_eq_true rfl) rfl (get_ok _ hl hb _ _) ?_; (focus kernel_rfl))
        | (refine AWL.call (f := 24) rfl rfl rfl ?_ rfl (Nat.le_of_ble_eq_true rfl) rfl (get_ok _ hl hb _ _) ?_; (focus kernel_rfl))
        | (refine CWr.call (f := 24) rfl ?_ rfl (get_ok _ hl hb _ _) (fun _ _ h => h) ?_ ?_ ?_; (focus kernel_rfl))
        | (refine AWL.callV (f := 26) rfl rfl rfl rfl ?_ (Nat.le_of_ble_eq_true rfl) rfl (set_walk _ hl hb _ _ _ hx0) ?_; (focus kernel_rfl))
        | (refine AWL.call (f := 26) rfl rfl rfl ?_ rfl (Nat.le_of_ble_eq_true rfl) rfl (set_walk _ hl hb _ _ _ hx0) ?_; (focus kernel_rfl))
        | (refine CWr.call (f := 26) rfl ?_ rfl (set_walk _ hl hb _ _ _ hx0) (fun _ _ h => h) ?_ ?_ ?_; (focus kernel_rfl))
        | fail) <;> (try ((first | show AWL _ _ _ _ _ | show AW _ _ _ _ | show FW _ _ _ _ _ _ _ _ _ _ | show CW _ _ _ _ _ _ _ _ _ _ _ _ | (rintro _ _ ⟨rfl, rfl⟩; (try refine And.intro rfl ?_))); (try (conv => arg -1; simp (disch := omega) only [NSX, Nat.reduceBEq, Nat.reduceAdd, Nat.reduceMul, Int.reduceToNat, Nat.reduceSub, TY, slx, take16, drop16, dz, nums_length, hl, hS1, take16])))))
      | ((first | refine AWL.guard2 rfl rfl rfl rfl rfl rfl ?_ ?_ | refine CW.guard2 rfl rfl rfl rfl rfl rfl rfl rfl ?_ ?_) <;> (intro hc; (try simp only [Bool.not_true, Bool.not_false] at hc); first | (cases hc; done) | ((try simp only [hc]); (try simp only [beq_iff_eq, bne_iff_ne, decide_eq_true_eq, decide_eq_false_iff_not, beq_eq_false_iff_ne, bne_eq_false_iff_eq, ne_eq, Bool.not_eq_true, Bool.not_eq_false, Bool.not_eq_eq_eq_not, Bool.not_true, Bool.not_false, Decidable.not_not, Int.not_lt, Int.not_le] at hc); (try (exfalso; omega)); (try (guard_hyp hc : True; clear hc)))))
      | (refine AWL.guard2 rfl rfl rfl rfl rfl rfl (fun hc => ?_) ?_; (cases hc; done))
      | ((first | ((show AW _ (.region _ _ true) _ _); refine AW.calm false [] [] hmix (by (repeat' (first | exact panOk_end | exact panOk_endM | refine panOk_then ?_ | refine panOk_block ?_ | refine QEq.pan (by assumption) ?_))) ?_ rfl ?_; (focus (as_aux_lemma => kernel_rfl))) | refine AWL.guardU rfl rfl rfl rfl rfl rfl ?_ | refine CW.guardU rfl rfl rfl rfl rfl rfl rfl rfl ?_); (try (conv => arg -1; simp (disch := omega) only [NSX, Nat.reduceBEq, Nat.reduceAdd, Nat.reduceMul, Int.reduceToNat, Nat.reduceSub, TY, slx, take16, drop16, dz, nums_length, hl, hS1, take16])))
      | refine CW.tail rfl ?_
      | (refine AW.cond rfl (fun hc => ?_) (fun hc => ?_) <;> first | (cases hc; done) | ((try simp only [beq_iff_eq, bne_iff_ne, decide_eq_true_eq, decide_eq_false_iff_not, beq_eq_false_iff_ne, bne_eq_false_iff_eq, ne_eq, Bool.not_eq_true, Bool.not_eq_false, Bool.not_eq_eq_eq_not, Bool.not_true, Bool.not_false, Decidable.not_not, Int.not_lt, Int.not_le] at hc); (try (exfalso; omega)); (try (guard_hyp hc : True; clear hc))))
      | ((refine EndQ.mk rfl rfl rfl ?_ ?_ ?_; (focus (first | exact Or.inl rfl | exact Or.inr rfl))) <;> (try simp (disch := omega) only [NSX, Nat.reduceBEq, Nat.reduceAdd, Nat.reduceMul, Int.reduceToNat, Nat.reduceSub, TY, slx, take16, drop16, dz, nums_length, hl, hS1, take16]))
      | (focus ((first | exact trivial | omega | (refine And.intro (by kernel_rfl) (And.intro ⟨_, (by first | exact nums_ints _ _ | rfl), (by first | exact nums_ints _ _ | rfl)⟩ (And.intro ?_ ?_)) <;> (first | rfl | assumption | (simp only [nums_length]; omega) | omega)) | (refine And.intro ?_ (And.intro ?_ ?_); (focus kernel_rfl); (focus kernel_rfl); (focus kernel_rfl)) | ((show newKs _ _ _ = true); kernel_rfl) | ((show FitV _ _ _ _ _ _); (repeat' (first | exact trivial | exact Or.inr (Or.inl rfl) | exact Or.inl rfl | exact Or.inr (Or.inr rfl) | refine And.intro ?_ ?_)); done) | assumption | ((first | refine ld_nums i3 _ _ ?_ | refine ld_nums i22 _ _ ?_ | refine ld_nums i5 _ _ ?_ | refine at_nums i3 _ _ ?_ | refine at_nums i22 _ _ ?_ | refine at_nums i5 _ _ ?_); first | assumption | omega | (simp only [List.length_append]; omega)) | (show _ ≤ _; omega) | (simp only [List.length_take, List.length_drop, List.length_append, List.length_cons, List.length_nil]; omega) | ((repeat' (first | exact trivial | exact rfl | exact Nat.le_of_ble_eq_true rfl | refine And.intro ?_ ?_ | fail)); done) | ((try simp (disch := omega) only [NSX, Nat.reduceBEq, Nat.reduceAdd, Nat.reduceMul, Int.reduceToNat, Nat.reduceSub, TY, slx, take16, drop16, dz, nums_length, hl, hS1, take16]); (repeat' (first | exact trivial | exact rfl | exact ⟨_, _, rfl⟩ | exact ⟨_, rfl⟩ | exact Nat.le_of_ble_eq_true rfl | exact Nat.zero_lt_succ _ | omega | (simp only [nums_length, toB_len] at *; omega) | refine And.intro ?_ ?_ | fail)); done)); done))
      | fail)
    all_goals first | exact ⟨trivial, trivial⟩ | exact ⟨rfl, trivial⟩ | exact ⟨rfl, rfl⟩ | exact ⟨trivial, rfl⟩ | (exfalso; omega) | trace_state
end Go.Proofs.Ytgmhfbdmigfgbaa
