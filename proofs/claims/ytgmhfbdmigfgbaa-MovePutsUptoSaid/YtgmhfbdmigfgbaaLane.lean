/- move.lane. -/
import Derived.Test.YtgmhfbdmigfgbaaV5
import Derived.Test.YtgmhfbdmigfgbaaPre
namespace Go.Proofs.Ytgmhfbdmigfgbaa
set_option linter.unusedSimpArgs false
set_option linter.unusedVariables false
open Go Go.Abs
attribute [local irreducible] AW AWL AC FW CW CWr IntKind.wrap

/-- the width of an opcode that takes a lane out, that puts one in -/
def extW (op : Int) : Int := if op = 64789 ∨ op = 64790 then 8 else if op = 64792 ∨ op = 64793 then 16 else if op = 64795 then 32 else if op = 64797 then 64 else 0
def repW (op : Int) : Int := if op = 64791 then 8 else if op = 64794 then 16 else if op = 64796 then 32 else if op = 64798 then 64 else 0
def laneW (op : Int) : Int := if repW op ≠ 0 then repW op else extW op
def laneP (op : Int) : Bool := decide (repW op ≠ 0)
theorem op_cases (op : Int) : op = 64789 ∨ op = 64790 ∨ op = 64791 ∨ op = 64792 ∨ op = 64793 ∨ op = 64794 ∨ op = 64795 ∨ op = 64796 ∨ op = 64797 ∨ op = 64798 ∨ (op ≠ 64789 ∧ op ≠ 64790 ∧ op ≠ 64791 ∧ op ≠ 64792 ∧ op ≠ 64793 ∧ op ≠ 64794 ∧ op ≠ 64795 ∧ op ≠ 64796 ∧ op ≠ 64797 ∧ op ≠ 64798) := by omega
set_option maxHeartbeats 3200000 in
theorem lane_ok (op : Int) (h : -9223372036854775808 ≤ op ∧ op < 9223372036854775808) : AC Try.prog 29 [.int .i64 op] (fun r m => r = .tup [.int .i64 (laneW op), .bool (laneP op)] ∧ m = []) := by
  obtain ⟨k, hk, hk2⟩ : ∃ k : Int, IntKind.i64.wrap (op - 64768) = k ∧ (∀ j : Int, 0 ≤ j → j ≤ 100 → (k = j ↔ op = 64768 + j)) := ⟨_, rfl, by intro j h0 h1; rw [IntKind.wrap_i64]; omega⟩
  have g := fun j h0 h1 => hk2 j h0 h1
  have g1 := g 21 (by omega) (by omega)
  have g2 := g 22 (by omega) (by omega)
  have g3 := g 23 (by omega) (by omega)
  have g4 := g 24 (by omega) (by omega)
  have g5 := g 25 (by omega) (by omega)
  have g6 := g 26 (by omega) (by omega)
  have g7 := g 27 (by omega) (by omega)
  have g8 := g 28 (by omega) (by omega)
  have g9 := g 29 (by omega) (by omega)
  have g10 := g 30 (by omega) (by omega)
  clear g hk2
  have hR : (laneW op, laneP op) = if k = 21 ∨ k = 22 then (8, false) else if k = 23 then (8, true) else if k = 24 ∨ k = 25 then (16, false) else if k = 26 then (16, true) else if k = 27 then (32, false) else if k = 28 then (32, true) else if k = 29 then (64, false) else if k = 30 then (64, true) else (0, false) := by
    rcases op_cases op with h | h | h | h | h | h | h | h | h | h | h
    all_goals first | (subst h; simp [laneW, laneP, repW, extW, g1, g2, g3, g4, g5, g6, g7, g8, g9, g10]; done) | (simp [laneW, laneP, repW, extW, g1, g2, g3, g4, g5, g6, g7, g8, g9, g10, h]; done)
  have h1 : laneW op = (laneW op, laneP op).1 := rfl
  have h2 : laneP op = (laneW op, laneP op).2 := rfl
  rw [h1, h2, hR]
  clear h1 h2 hR g1 g2 g3 g4 g5 g6 g7 g8 g9 g10
  refine AC.enter Try.func29 rfl (Nat.le_of_ble_eq_true rfl) ?_
  simp only [Try.f29]
  have hchk : True := by simp only [TY, slx, take16, drop16, dz, nums_length, hk]
  repeat' (first
    | (refine AWL.opN (sl := SL) rfl rfl rfl trivial ?_; (try (conv => arg -1; simp (disch := omega) only [NSX, Nat.reduceBEq, Nat.reduceAdd, Nat.reduceMul, Int.reduceToNat, Nat.reduceSub, TY, slx, take16, drop16, dz, nums_length, hk])))
    | (refine AW.seqQ ?_; intro Qn hQn)
    | (refine AW.blockQ ?_; intro Qn hQn)
    | refine AW.region ?_
    | ((first | refine AW.skip ?_ | refine AW.ret ?_ | refine AW.exit ?_ | refine AWL.nil ?_ | refine CW.nil ?_); (repeat (first | refine QEq.mp (by assumption) ?_ | simp only [thenQ, Go.Abs.blockQ, ↓reduceIte, Nat.reduceEqDiff])))
    | refine FW.nil ?_
    | refine FW.pass rfl rfl ?_
    | refine FW.go rfl ?_
    | refine CW.skip rfl rfl ?_
    | refine CW.step rfl rfl rfl rfl rfl ?_
    | ((first
      | (refine AWL.boxF (t := 26) rfl rfl rfl rfl rfl ?_)
      | (refine AWL.allocF (t := 26) rfl rfl rfl rfl rfl rfl ?_)
      | (refine CWr.allocF (t := 26) rfl rfl rfl ?_ ?_)
      | (refine AWL.op (sl := SL) rfl rfl ?_ ?_)
      | (refine FW.float rfl rfl rfl rfl rfl ?_)
      | (refine CWr.op rfl ?_ ?_ ?_)
      | (refine CWr.assign rfl ?_ ?_)
      | (refine CWr.alloc rfl rfl rfl rfl ?_)
      | (refine CWr.build rfl rfl rfl rfl ?_ rfl rfl rfl ?_)
      | fail) <;> (try ((first | show AWL _ _ _ _ _ | show AW _ _ _ _ | show FW _ _ _ _ _ _ _ _ _ _ | show CW _ _ _ _ _ _ _ _ _ _ _ _ | (rintro _ _ ⟨rfl, rfl⟩; (try refine And.intro rfl ?_))); (try (conv => arg -1; simp (disch := omega) only [NSX, Nat.reduceBEq, Nat.reduceAdd, Nat.reduceMul, Int.reduceToNat, Nat.reduceSub, TY, slx, take16, drop16, dz, nums_length, hk])))))
    | ((first | refine AWL.guard2 rfl rfl rfl rfl rfl rfl ?_ ?_ | refine CW.guard2 rfl rfl rfl rfl rfl rfl rfl rfl ?_ ?_) <;> (intro hc; (try simp only [Bool.not_true, Bool.not_false] at hc); first | (cases hc; done) | ((try simp only [hc]); (try simp only [beq_iff_eq, bne_iff_ne, decide_eq_true_eq, decide_eq_false_iff_not, beq_eq_false_iff_ne, bne_eq_false_iff_eq, ne_eq, Bool.not_eq_true, Bool.not_eq_false, Bool.not_eq_eq_eq_not, Bool.not_true, Bool.not_false, Decidable.not_not, Int.not_lt, Int.not_le] at hc); (try (exfalso; omega)); (try (guard_hyp hc : True; clear hc)))))
    | (refine AWL.guard2 rfl rfl rfl rfl rfl rfl (fun hc => ?_) ?_; (cases hc; done))
    | ((first | ((show AW _ (.region _ _ true) _ _); refine AW.calm false [] [] hmix (by (repeat' (first | exact panOk_end | exact panOk_endM | refine panOk_then ?_ | refine panOk_block ?_ | refine QEq.pan (by assumption) ?_))) ?_ rfl ?_; (focus (as_aux_lemma => kernel_rfl))) | refine AWL.guardU rfl rfl rfl rfl rfl rfl ?_ | refine CW.guardU rfl rfl rfl rfl rfl rfl rfl rfl ?_); (try (conv => arg -1; simp (disch := omega) only [NSX, Nat.reduceBEq, Nat.reduceAdd, Nat.reduceMul, Int.reduceToNat, Nat.reduceSub, TY, slx, take16, drop16, dz, nums_length, hk])))
    | refine CW.tail rfl ?_
    | (refine AW.cond rfl (fun hc => ?_) (fun hc => ?_) <;> first | (cases hc; done) | ((try simp only [beq_iff_eq, bne_iff_ne, decide_eq_true_eq, decide_eq_false_iff_not, beq_eq_false_iff_ne, bne_eq_false_iff_eq, ne_eq, Bool.not_eq_true, Bool.not_eq_false, Bool.not_eq_eq_eq_not, Bool.not_true, Bool.not_false, Decidable.not_not, Int.not_lt, Int.not_le] at hc); (try (exfalso; omega)); (try (guard_hyp hc : True; clear hc))))
    | ((refine EndQ.mk rfl rfl rfl ?_ ?_ ?_; (focus (first | exact Or.inl rfl | exact Or.inr rfl))) <;> (try simp (disch := omega) only [NSX, Nat.reduceBEq, Nat.reduceAdd, Nat.reduceMul, Int.reduceToNat, Nat.reduceSub, TY, slx, take16, drop16, dz, nums_length, hk]))
    | (focus ((first | exact trivial | omega | (refine And.intro (by kernel_rfl) (And.intro ⟨_, (by first | exact nums_ints _ _ | rfl), (by first | exact nums_ints _ _ | rfl)⟩ (And.intro ?_ ?_)) <;> (first | rfl | assumption | (simp only [nums_length]; omega) | omega)) | (refine And.intro ?_ (And.intro ?_ ?_); (focus kernel_rfl); (focus kernel_rfl); (focus kernel_rfl)) | ((show newKs _ _ _ = true); kernel_rfl) | ((show FitV _ _ _ _ _ _); (repeat' (first | exact trivial | exact Or.inr (Or.inl rfl) | exact Or.inl rfl | exact Or.inr (Or.inr rfl) | refine And.intro ?_ ?_)); done) | assumption | ((first | refine ld_nums i3 _ _ ?_ | refine ld_nums i22 _ _ ?_ | refine ld_nums i5 _ _ ?_ | refine at_nums i3 _ _ ?_ | refine at_nums i22 _ _ ?_ | refine at_nums i5 _ _ ?_); first | assumption | omega | (simp only [List.length_append]; omega)) | (show _ ≤ _; omega) | (simp only [List.length_take, List.length_drop, List.length_append, List.length_cons, List.length_nil]; omega) | ((repeat' (first | exact trivial | exact rfl | exact Nat.le_of_ble_eq_true rfl | refine And.intro ?_ ?_ | fail)); done) | ((try simp (disch := omega) only [NSX, Nat.reduceBEq, Nat.reduceAdd, Nat.reduceMul, Int.reduceToNat, Nat.reduceSub, TY, slx, take16, drop16, dz, nums_length, hk]); (repeat' (first | exact trivial | exact rfl | exact ⟨_, _, rfl⟩ | exact ⟨_, rfl⟩ | exact Nat.le_of_ble_eq_true rfl | exact Nat.zero_lt_succ _ | omega | (simp only [nums_length, toB_len] at *; omega) | refine And.intro ?_ ?_ | fail)); done)); done))
    | fail)
  all_goals first
    | (refine ⟨?_, trivial⟩; simp only [*]; done)
    | (refine ⟨?_, trivial⟩; simp [*]; done)
    | (exfalso; omega) | trace_state
end Go.Proofs.Ytgmhfbdmigfgbaa
