/- awake. -/
import Derived.Test.YtgmhfbdmigfgbaaV6
import Derived.Test.YtgmhfbdmigfgbaaLow
import Derived.Test.YtgmhfbdmigfgbaaExt
import Derived.Test.YtgmhfbdmigfgbaaOf
import Derived.Test.YtgmhfbdmigfgbaaGet
namespace Go.Proofs.Ytgmhfbdmigfgbaa
set_option linter.unusedSimpArgs false
set_option linter.unusedVariables false
open Go Go.Abs
attribute [local irreducible] AW AWL AC FW CW CWr IntKind.wrap

theorem bytes_of {l : List Int} (h : (l.all fun x => decide (0 ≤ x ∧ x ≤ 255)) = true) : bytes l := fun x hx => by
  have := of_decide_eq_true (List.all_eq_true.1 h x hx)
  exact this
def A1 : List Int := [112, 17, 112, 17, 112, 17, 112, 17, 112, 17, 112, 17, 112, 17, 112, 17]
def A255 : List Int := [255, 0, 0, 0, 0, 0, 0, 0, 0, 0, 0, 0, 0, 0, 0, 0]
def Sel : List Int := [16, 17, 18, 19, 20, 21, 22, 23, 24, 25, 26, 27, 28, 29, 30, 31]
set_option maxRecDepth 4000 in
set_option maxHeartbeats 3200000 in
theorem awake_ok : AC Try.prog 9 [] (fun r m => r = .bool true ∧ m = []) := by
  have b1 : bytes A1 := bytes_of (by decide +kernel)
  have b2 : bytes A255 := bytes_of (by decide +kernel)
  have b3 : bytes Sel := bytes_of (by decide +kernel)
  have hspl := splat_ok 64784 70000 (by decide) (by decide)
  rw [show spS 64784 70000 = (A1, 0) from by decide +kernel] at hspl
  have hof1 := of_at 1 8 [255] rfl (by intro x hx; simp at hx; subst hx; decide) (by decide)
  rw [show of 8 [255] = A255 from by decide +kernel] at hof1
  have hof2 := of_at 2 64 [1663540288323457296, 2242261671028070680] rfl (by intro x hx; simp at hx; rcases hx with rfl | rfl <;> decide) (by decide)
  rw [show of 64 [1663540288323457296, 2242261671028070680] = Sel from by decide +kernel] at hof2
  have hext := ext_ok 64789 0 (by decide) A255 rfl b2
  rw [show exS 64789 0 A255 = (4294967295, 0) from by decide +kernel] at hext
  have hshuf := AC.of_fagg (args := [.fagg (nums .u8 Sel), .agg [V.int .u8 0, V.int .u8 0, V.int .u8 0, V.int .u8 0, V.int .u8 0, V.int .u8 0, V.int .u8 0, V.int .u8 0, V.int .u8 0, V.int .u8 0, V.int .u8 0, V.int .u8 0, V.int .u8 0, V.int .u8 0, V.int .u8 0, V.int .u8 0], .fagg (nums .u8 A1)]) (shuf_ok Sel zero16 A1 rfl rfl rfl b3 zero_ok.2 b1)
  rw [show shS Sel zero16 A1 = (A1, 0) from by decide +kernel] at hshuf
  have hrep := rep_ok 64789 0 (by decide) A1 rfl b1 1 (by decide)
  rw [show reS 64789 0 A1 1 = (zero16, 1) from by decide +kernel] at hrep
  have hget := get_ok A1 rfl b1 16 7
  rw [show get A1 16 7 = 4464 from by decide +kernel] at hget
  have hA1 : A1.length = 16 := rfl
  have hA2 : A255.length = 16 := rfl
  have hA3 : Sel.length = 16 := rfl
  have hz : zero16.length = 16 := rfl
  refine AC.enter Try.func9 rfl (Nat.le_of_ble_eq_true rfl) ?_
  simp only [Try.f9]
  have hchk : True := by simp only [TY, slx, take16, drop16, dz, nums_length, hA1, hA2, hA3, hz, eq_self, decide_true]
  repeat' (first
    | (refine AWL.opN (sl := SL) rfl rfl rfl trivial ?_; (try (conv => arg -1; simp (disch := omega) only [NSX, Nat.reduceBEq, Nat.reduceAdd, Nat.reduceMul, Int.reduceToNat, Nat.reduceSub, TY, slx, take16, drop16, dz, nums_length, hA1, hA2, hA3, hz, eq_self, decide_true])))
    | (refine AW.seqQ ?_; intro Qn hQn)
    | (refine AW.blockQ ?_; intro Qn hQn)
    | refine AW.region ?_
    | ((first | refine AW.skip ?_ | refine AW.ret ?_ | refine AW.exit ?_ | refine AWL.nil ?_ | refine CW.nil ?_); (repeat (first | refine QEq.mp (by assumption) ?_ | simp only [thenQ, Go.Abs.blockQ, ↓reduceIte, Nat.reduceEqDiff])))
    | refine FW.nil ?_
    | refine FW.pass rfl rfl ?_
    | refine FW.go rfl ?_
    | refine CW.skip rfl rfl ?_
    | refine CW.step rfl rfl rfl rfl rfl ?_
    | ((first
      | (refine AWL.boxF (t := 26) rfl rfl rfl rfl rfl ?_)
      | (refine AWL.allocF (t := 26) rfl rfl rfl rfl rfl rfl ?_)
      | (refine CWr.allocF (t := 26) rfl rfl rfl ?_ ?_)
      | (refine AWL.op (sl := SL) rfl rfl ?_ ?_)
      | (refine FW.float rfl rfl rfl rfl rfl ?_)
      | (refine CWr.op rfl ?_ ?_ ?_)
      | (refine CWr.assign rfl ?_ ?_)
      | (refine CWr.alloc rfl rfl rfl rfl ?_)
      | (refine CWr.build rfl rfl rfl rfl ?_ rfl rfl rfl ?_)
      | (refine AWL.frzA rfl rfl ?_)
      | (refine AWL.callV (f := 10) rfl rfl rfl rfl ?_ (Nat.le_of_ble_eq_true rfl) rfl (hspl) ?_; (focus kernel_rfl))
      | (refine AWL.call (f := 10) rfl rfl rfl ?_ rfl (Nat.le_of_ble_eq_true rfl) rfl (hspl) ?_; (focus kernel_rfl))
      | (refine CWr.call (f := 10) rfl ?_ rfl (hspl) (fun _ _ h => h) ?_ ?_ ?_; (focus kernel_rfl))
      | (refine AWL.callV (f := 23) rfl rfl rfl rfl ?_ (Nat.le_of_ble_eq_true rfl) rfl (hof1) ?_; (focus kernel_rfl))
      | (refine AWL.call (f := 23) rfl rfl rfl ?_ rfl (Nat.le_of_ble_eq_true rfl) rfl (hof1) ?_; (focus kernel_rfl))
      | (refine CWr.call (f := 23) rfl ?_ rfl (hof1) (fun _ _ h => h) ?_ ?_ ?_; (focus kernel_rfl))
      | (refine AWL.callV (f := 23) rfl rfl rfl rfl ?_ (Nat.le_of_ble_eq_true rfl) rfl (hof2) ?_; (focus kernel_rfl))
      | (refine AWL.call (f := 23) rfl rfl rfl ?_ rfl (Nat.le_of_ble_eq_true rfl) rfl (hof2) ?_; (focus kernel_rfl))
      | (refine CWr.call (f := 23) rfl ?_ rfl (hof2) (fun _ _ h => h) ?_ ?_ ?_; (focus kernel_rfl))
      | (refine AWL.callV (f := 12) rfl rfl rfl rfl ?_ (Nat.le_of_ble_eq_true rfl) rfl (hext) ?_; (focus kernel_rfl))
      | (refine AWL.call (f := 12) rfl rfl rfl ?_ rfl (Nat.le_of_ble_eq_true rfl) rfl (hext) ?_; (focus kernel_rfl))
      | (refine CWr.call (f := 12) rfl ?_ rfl (hext) (fun _ _ h => h) ?_ ?_ ?_; (focus kernel_rfl))
      | (refine AWL.callV (f := 17) rfl rfl rfl rfl ?_ (Nat.le_of_ble_eq_true rfl) rfl (hshuf) ?_; (focus kernel_rfl))
      | (refine AWL.call (f := 17) rfl rfl rfl ?_ rfl (Nat.le_of_ble_eq_true rfl) rfl (hshuf) ?_; (focus kernel_rfl))
      | (refine CWr.call (f := 17) rfl ?_ rfl (hshuf) (fun _ _ h => h) ?_ ?_ ?_; (focus kernel_rfl))
      | (refine AWL.callV (f := 14) rfl rfl rfl rfl ?_ (Nat.le_of_ble_eq_true rfl) rfl (hrep) ?_; (focus kernel_rfl))
      | (refine AWL.call (f := 14) rfl rfl rfl ?_ rfl (Nat.le_of_ble_eq_true rfl) rfl (hrep) ?_; (focus kernel_rfl))
      | (refine CWr.call (f := 14) rfl ?_ rfl (hrep) (fun _ _ h => h) ?_ ?_ ?_; (focus kernel_rfl))
      | (refine AWL.callV (f := 24) rfl rfl rfl rfl ?_ (Nat.le_of_ble_eq_true rfl) rfl (hget) ?_; (focus kernel_rfl))
      | (refine AWL.call (f := 24) rfl rfl rfl ?_ rfl (Nat.le_of_ble_eq_true rfl) rfl (hget) ?_; (focus kernel_rfl))
      | (refine CWr.call (f := 24) rfl ?_ rfl (hget) (fun _ _ h => h) ?_ ?_ ?_; (focus kernel_rfl))
      | fail) <;> (try ((first | show AWL _ _ _ _ _ | show AW _ _ _ _ | show FW _ _ _ _ _ _ _ _ _ _ | show CW _ _ _ _ _ _ _ _ _ _ _ _ | (rintro _ _ ⟨rfl, rfl⟩; (try refine And.intro rfl ?_))); (try (conv => arg -1; simp (disch := omega) only [NSX, Nat.reduceBEq, Nat.reduceAdd, Nat.reduceMul, Int.reduceToNat, Nat.reduceSub, TY, slx, take16, drop16, dz, nums_length, hA1, hA2, hA3, hz, eq_self, decide_true])))))
    | ((first | refine AWL.guard2 rfl rfl rfl rfl rfl rfl ?_ ?_ | refine CW.guard2 rfl rfl rfl rfl rfl rfl rfl rfl ?_ ?_) <;> (intro hc; (try simp only [Bool.not_true, Bool.not_false] at hc); first | (cases hc; done) | ((try simp only [hc]); (try simp only [beq_iff_eq, bne_iff_ne, decide_eq_true_eq, decide_eq_false_iff_not, beq_eq_false_iff_ne, bne_eq_false_iff_eq, ne_eq, Bool.not_eq_true, Bool.not_eq_false, Bool.not_eq_eq_eq_not, Bool.not_true, Bool.not_false, Decidable.not_not, Int.not_lt, Int.not_le] at hc); (try (exfalso; omega)); (try (guard_hyp hc : True; clear hc)))))
    | (refine AWL.guard2 rfl rfl rfl rfl rfl rfl (fun hc => ?_) ?_; (cases hc; done))
    | ((first | ((show AW _ (.region _ _ true) _ _); refine AW.calm false [] [20, 5] (id := 3) hmix (by (repeat' (first | exact panOk_end | exact panOk_endM | refine panOk_then ?_ | refine panOk_block ?_ | refine QEq.pan (by assumption) ?_))) ?_ rfl ?_; (focus (as_aux_lemma => kernel_rfl))) | ((show AW _ (.region _ _ true) _ _); refine AW.calm false [] [] hmix (by (repeat' (first | exact panOk_end | exact panOk_endM | refine panOk_then ?_ | refine panOk_block ?_ | refine QEq.pan (by assumption) ?_))) ?_ rfl ?_; (focus (as_aux_lemma => kernel_rfl))) | ((show AW _ (.region _ _ true) _ _); refine AW.eager false [] [20, 5] (id := 3) hmix (by (repeat' (first | exact panOk_end | exact panOk_endM | refine panOk_then ?_ | refine panOk_block ?_ | refine QEq.pan (by assumption) ?_))) ?_ rfl ?_; (focus (as_aux_lemma => kernel_rfl))) | ((show AW _ (.region _ _ true) _ _); refine AW.eager false [] [] hmix (by (repeat' (first | exact panOk_end | exact panOk_endM | refine panOk_then ?_ | refine panOk_block ?_ | refine QEq.pan (by assumption) ?_))) ?_ rfl ?_; (focus (as_aux_lemma => kernel_rfl))) | refine AWL.guardU rfl rfl rfl rfl rfl rfl ?_ | refine CW.guardU rfl rfl rfl rfl rfl rfl rfl rfl ?_); (try (conv => arg -1; simp (disch := omega) only [NSX, Nat.reduceBEq, Nat.reduceAdd, Nat.reduceMul, Int.reduceToNat, Nat.reduceSub, TY, slx, take16, drop16, dz, nums_length, hA1, hA2, hA3, hz, eq_self, decide_true])))
    | refine CW.tail rfl ?_
    | (refine AW.cond rfl (fun hc => ?_) (fun hc => ?_) <;> first | (cases hc; done) | ((try simp only [beq_iff_eq, bne_iff_ne, decide_eq_true_eq, decide_eq_false_iff_not, beq_eq_false_iff_ne, bne_eq_false_iff_eq, ne_eq, Bool.not_eq_true, Bool.not_eq_false, Bool.not_eq_eq_eq_not, Bool.not_true, Bool.not_false, Decidable.not_not, Int.not_lt, Int.not_le] at hc); (try (exfalso; omega)); (try (guard_hyp hc : True; clear hc))))
    | ((refine EndQ.mk rfl rfl rfl ?_ ?_ ?_; (focus (first | exact Or.inl rfl | exact Or.inr rfl))) <;> (try simp (disch := omega) only [NSX, Nat.reduceBEq, Nat.reduceAdd, Nat.reduceMul, Int.reduceToNat, Nat.reduceSub, TY, slx, take16, drop16, dz, nums_length, hA1, hA2, hA3, hz, eq_self, decide_true]))
    | (focus ((first | exact trivial | omega | (refine And.intro (by kernel_rfl) (And.intro ⟨_, (by first | exact nums_ints _ _ | rfl), (by first | exact nums_ints _ _ | rfl)⟩ (And.intro ?_ ?_)) <;> (first | rfl | assumption | (simp only [nums_length]; omega) | omega)) | (refine And.intro ?_ (And.intro ?_ ?_); (focus kernel_rfl); (focus kernel_rfl); (focus kernel_rfl)) | ((show newKs _ _ _ = true); kernel_rfl) | ((show FitV _ _ _ _ _ _); (repeat' (first | exact trivial | exact Or.inr (Or.inl rfl) | exact Or.inl rfl | exact Or.inr (Or.inr rfl) | refine And.intro ?_ ?_)); done) | assumption | ((first | refine ld_nums i3 _ _ ?_ | refine ld_nums i22 _ _ ?_ | refine ld_nums i5 _ _ ?_ | refine at_nums i3 _ _ ?_ | refine at_nums i22 _ _ ?_ | refine at_nums i5 _ _ ?_); first | assumption | omega | (simp only [List.length_append]; omega)) | (show _ ≤ _; omega) | (simp only [List.length_take, List.length_drop, List.length_append, List.length_cons, List.length_nil]; omega) | ((repeat' (first | exact trivial | exact rfl | exact Nat.le_of_ble_eq_true rfl | refine And.intro ?_ ?_ | fail)); done) | ((try simp (disch := omega) only [NSX, Nat.reduceBEq, Nat.reduceAdd, Nat.reduceMul, Int.reduceToNat, Nat.reduceSub, TY, slx, take16, drop16, dz, nums_length, hA1, hA2, hA3, hz, eq_self, decide_true]); (repeat' (first | exact trivial | exact rfl | exact ⟨_, _, rfl⟩ | exact ⟨_, rfl⟩ | exact Nat.le_of_ble_eq_true rfl | exact Nat.zero_lt_succ _ | omega | (simp only [nums_length, toB_len] at *; omega) | refine And.intro ?_ ?_ | fail)); done)); done))
    | fail)
  all_goals first | exact ⟨trivial, trivial⟩ | exact ⟨rfl, trivial⟩ | exact ⟨rfl, rfl⟩ | exact ⟨trivial, rfl⟩ | (exfalso; omega) | trace_state
end Go.Proofs.Ytgmhfbdmigfgbaa
