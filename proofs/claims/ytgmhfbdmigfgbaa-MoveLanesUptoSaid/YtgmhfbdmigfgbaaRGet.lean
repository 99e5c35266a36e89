/- the document's Get. -/
import Derived.Test.YtgmhfbdmigfgbaaV5
import Derived.Test.YtgmhfbdmigfgbaaRLanes
namespace Go.Proofs.Ytgmhfbdmigfgbaa
set_option linter.unusedSimpArgs false
set_option linter.unusedVariables false
open Go Go.Abs
attribute [local irreducible] AW AWL AC FW CW CWr IntKind.wrap

def S21 (v : List Int) (w i x k : Int) : St := { n := 42, slots := [(1, .int .i64 w), (2, .int .i64 i), (3, .ptr 3 0), (7, .int .u64 x), (8, .int .i64 k)], mem := [(3, ⟨true, nums .u8 v⟩)] }
theorem le_drop {l : List Int} {k : Nat} (h : k < l.length) : le (l.drop k) = l.getD k 0 + 256 * le (l.drop (k + 1)) := by
  rw [List.drop_eq_getElem_cons h, le]; simp [List.getD, h]
set_option maxHeartbeats 1600000 in
theorem rget_ok (v : List Int) (hl : v.length = 16) (hb : bytes v) (w i : Int) : AC Try.prog 31 [.fagg (nums .u8 v), .int .i64 w, .int .i64 i] (fun r m => r = .int .u64 (get v w i) ∧ m = []) := by
  by_cases hi : 0 ≤ i ∧ i < lanes w
  · obtain ⟨i0, rfl⟩ : ∃ i0 : Nat, i = i0 := ⟨i.toNat, by omega⟩
    obtain ⟨h0, h16⟩ := lane_in (w := w) (i := i0) (by omega)
    have e1 := wbe h0
    have e2 : IntKind.i64.wrap ((i0 : Int) * (wb w : Nat)) = ((i0 * wb w : Nat) : Int) := by rw [← Int.natCast_mul]; exact wrap64_id _ (by omega) (by omega)
    obtain ⟨g, hg⟩ : ∃ g, g = (v.drop (i0 * wb w)).take (wb w) := ⟨_, rfl⟩
    have hgg : get v w i0 = le g := by unfold get; rw [if_pos (by omega), Int.toNat_natCast, hg]
    have hby : bytes g := by rw [hg]; exact bytes_take (bytes_drop hb (i0 * wb w)) (wb w)
    have hlt : g.length = wb w := by rw [hg, List.length_take, List.length_drop]; omega
    have h8 := (lanes_wb h0).2.2.2
    have e4 : IntKind.i64.wrap ((wb w : Nat) - 1 : Int) = (wb w : Nat) - 1 := wrap64_id _ (by omega) (by omega)
    have hat : ∀ k, k < wb w → v.getD (i0 * wb w + k) 0 = g.getD k 0 := fun k hk => by
      rw [hg]; simp only [List.getD_eq_getElem?_getD, List.getElem?_take, if_pos hk, List.getElem?_drop]
    refine AC.enter Try.func31 rfl (Nat.le_of_ble_eq_true rfl) ?_
    simp only [Try.f31]
    have hchk : True := by simp only [TY, slx, take16, drop16, dz, nums_length, S21, e1, e2, e4]
    repeat' (first
      | (refine AWL.opN (sl := SL) rfl rfl rfl trivial ?_; (try (conv => arg -1; simp (disch := omega) only [NSX, Nat.reduceBEq, Nat.reduceAdd, Nat.reduceMul, Int.reduceToNat, Nat.reduceSub, TY, slx, take16, drop16, dz, nums_length, S21, e1, e2, e4])))
      | (refine AW.seqQ ?_; intro Qn hQn)
      | (refine AW.blockQ ?_; intro Qn hQn)
      | refine AW.region ?_
      | ((first | refine AW.skip ?_ | refine AW.ret ?_ | refine AW.exit ?_ | refine AWL.nil ?_ | refine CW.nil ?_); (repeat (first | refine QEq.mp (by assumption) ?_ | simp only [thenQ, Go.Abs.blockQ, ↓reduceIte, Nat.reduceEqDiff])))
      | refine FW.nil ?_
      | refine FW.pass rfl rfl ?_
      | refine FW.go rfl ?_
      | refine CW.skip rfl rfl ?_
      | refine CW.step rfl rfl rfl rfl rfl ?_
      | ((first
        | (refine AWL.boxF (t := 26) rfl rfl rfl rfl rfl ?_)
        | (refine AWL.allocF (t := 26) rfl rfl rfl rfl rfl rfl ?_)
        | (refine CWr.allocF (t := 26) rfl rfl rfl ?_ ?_)
        | (refine AWL.op (sl := SL) rfl rfl ?_ ?_)
        | (refine FW.float rfl rfl rfl rfl rfl ?_)
        | (refine CWr.op rfl ?_ ?_ ?_)
        | (refine CWr.assign rfl ?_ ?_)
        | (refine CWr.alloc rfl rfl rfl rfl ?_)
        | (refine CWr.build rfl rfl rfl rfl ?_ rfl rfl rfl ?_)
        | (refine AWL.frzA rfl rfl ?_)
        | (refine AWL.callV (f := 34) rfl rfl rfl rfl ?_ (Nat.le_of_ble_eq_true rfl) rfl (rlanes_ok _) ?_; (focus kernel_rfl))
        | (refine AWL.call (f := 34) rfl rfl rfl ?_ rfl (Nat.le_of_ble_eq_true rfl) rfl (rlanes_ok _) ?_; (focus kernel_rfl))
        | (refine CWr.call (f := 34) rfl ?_ rfl (rlanes_ok _) (fun _ _ h => h) ?_ ?_ ?_; (focus kernel_rfl))
        | fail) <;> (try ((first | show AWL _ _ _ _ _ | show AW _ _ _ _ | show FW _ _ _ _ _ _ _ _ _ _ | show CW _ _ _ _ _ _ _ _ _ _ _ _ | (rintro _ _ ⟨rfl, rfl⟩; (try refine And.intro rfl ?_))); (try (conv => arg -1; simp (disch := omega) only [NSX, Nat.reduceBEq, Nat.reduceAdd, Nat.reduceMul, Int.reduceToNat, Nat.reduceSub, TY, slx, take16, drop16, dz, nums_length, S21, e1, e2, e4])))))
      | ((first | refine AWL.guard2 rfl rfl rfl rfl rfl rfl ?_ ?_ | refine CW.guard2 rfl rfl rfl rfl rfl rfl rfl rfl ?_ ?_) <;> (intro hc; (try simp only [Bool.not_true, Bool.not_false] at hc); first | (cases hc; done) | ((try simp only [hc]); (try simp only [beq_iff_eq, bne_iff_ne, decide_eq_true_eq, decide_eq_false_iff_not, beq_eq_false_iff_ne, bne_eq_false_iff_eq, ne_eq, Bool.not_eq_true, Bool.not_eq_false, Bool.not_eq_eq_eq_not, Bool.not_true, Bool.not_false, Decidable.not_not, Int.not_lt, Int.not_le] at hc); (try (exfalso; omega)); (try (guard_hyp hc : True; clear hc)))))
      | (refine AWL.guard2 rfl rfl rfl rfl rfl rfl (fun hc => ?_) ?_; (cases hc; done))
      | ((first | ((show AW _ (.region _ _ true) _ _); refine AW.calm false [] [] hmix (by (repeat' (first | exact panOk_end | exact panOk_endM | refine panOk_then ?_ | refine panOk_block ?_ | refine QEq.pan (by assumption) ?_))) ?_ rfl ?_; (focus (as_aux_lemma => kernel_rfl))) | refine AWL.guardU rfl rfl rfl rfl rfl rfl ?_ | refine CW.guardU rfl rfl rfl rfl rfl rfl rfl rfl ?_); (try (conv => arg -1; simp (disch := omega) only [NSX, Nat.reduceBEq, Nat.reduceAdd, Nat.reduceMul, Int.reduceToNat, Nat.reduceSub, TY, slx, take16, drop16, dz, nums_length, S21, e1, e2, e4])))
      | refine CW.tail rfl ?_
      | (refine AW.cond rfl (fun hc => ?_) (fun hc => ?_) <;> first | (cases hc; done) | ((try simp only [beq_iff_eq, bne_iff_ne, decide_eq_true_eq, decide_eq_false_iff_not, beq_eq_false_iff_ne, bne_eq_false_iff_eq, ne_eq, Bool.not_eq_true, Bool.not_eq_false, Bool.not_eq_eq_eq_not, Bool.not_true, Bool.not_false, Decidable.not_not, Int.not_lt, Int.not_le] at hc); (try (exfalso; omega)); (try (guard_hyp hc : True; clear hc))))
      | ((refine EndQ.mk rfl rfl rfl ?_ ?_ ?_; (focus (first | exact Or.inl rfl | exact Or.inr rfl))) <;> (try simp (disch := omega) only [NSX, Nat.reduceBEq, Nat.reduceAdd, Nat.reduceMul, Int.reduceToNat, Nat.reduceSub, TY, slx, take16, drop16, dz, nums_length, S21, e1, e2, e4]))
      | (focus ((first | exact trivial | omega | (refine And.intro (by kernel_rfl) (And.intro ⟨_, (by first | exact nums_ints _ _ | rfl), (by first | exact nums_ints _ _ | rfl)⟩ (And.intro ?_ ?_)) <;> (first | rfl | assumption | (simp only [nums_length]; omega) | omega)) | (refine And.intro ?_ (And.intro ?_ ?_); (focus kernel_rfl); (focus kernel_rfl); (focus kernel_rfl)) | ((show newKs _ _ _ = true); kernel_rfl) | ((show FitV _ _ _ _ _ _); (repeat' (first | exact trivial | exact Or.inr (Or.inl rfl) | exact Or.inl rfl | exact Or.inr (Or.inr rfl) | refine And.intro ?_ ?_)); done) | assumption | ((first | refine ld_nums i3 _ _ ?_ | refine ld_nums i22 _ _ ?_ | refine ld_nums i5 _ _ ?_ | refine at_nums i3 _ _ ?_ | refine at_nums i22 _ _ ?_ | refine at_nums i5 _ _ ?_); first | assumption | omega | (simp only [List.length_append]; omega)) | (show _ ≤ _; omega) | (simp only [List.length_take, List.length_drop, List.length_append, List.length_cons, List.length_nil]; omega) | ((repeat' (first | exact trivial | exact rfl | exact Nat.le_of_ble_eq_true rfl | refine And.intro ?_ ?_ | fail)); done) | ((try simp (disch := omega) only [NSX, Nat.reduceBEq, Nat.reduceAdd, Nat.reduceMul, Int.reduceToNat, Nat.reduceSub, TY, slx, take16, drop16, dz, nums_length, S21, e1, e2, e4]); (repeat' (first | exact trivial | exact rfl | exact ⟨_, _, rfl⟩ | exact ⟨_, rfl⟩ | exact Nat.le_of_ble_eq_true rfl | exact Nat.zero_lt_succ _ | omega | (simp only [nums_length, toB_len] at *; omega) | refine And.intro ?_ ?_ | fail)); done)); done))
      | fail)
    all_goals try (exfalso; omega)
    refine AW.loop [1, 2, 3, 7, 8] [3] (fun m st => ∃ k : Nat, st = S21 v w i0 (le (g.drop k)) ((k : Int) - 1) ∧ k ≤ wb w ∧ m = k) ?_ ?_
    · exact ⟨_, wb w, by rw [List.drop_of_length_le (by omega)]; rfl, Nat.le_refl _, rfl⟩
    · rintro m st ⟨k, rfl, hk, rfl⟩
      by_cases hk0 : m = 0
      · subst hk0
        have hchk : True := by simp only [TY, slx, take16, drop16, dz, nums_length, S21, e1, e2]
        repeat' (first
          | (refine AWL.opN (sl := SL) rfl rfl rfl trivial ?_; (try (conv => arg -1; simp (disch := omega) only [NSX, Nat.reduceBEq, Nat.reduceAdd, Nat.reduceMul, Int.reduceToNat, Nat.reduceSub, TY, slx, take16, drop16, dz, nums_length, S21, e1, e2])))
          | (refine AW.seqQ ?_; intro Qn hQn)
          | (refine AW.blockQ ?_; intro Qn hQn)
          | refine AW.region ?_
          | ((first | refine AW.skip ?_ | refine AW.ret ?_ | refine AW.exit ?_ | refine AWL.nil ?_ | refine CW.nil ?_); (repeat (first | refine QEq.mp (by assumption) ?_ | simp only [thenQ, Go.Abs.blockQ, ↓reduceIte, Nat.reduceEqDiff])))
          | refine FW.nil ?_
          | refine FW.pass rfl rfl ?_
          | refine FW.go rfl ?_
          | refine CW.skip rfl rfl ?_
          | refine CW.step rfl rfl rfl rfl rfl ?_
          | ((first
            | (refine AWL.boxF (t := 26) rfl rfl rfl rfl rfl ?_)
            | (refine AWL.allocF (t := 26) rfl rfl rfl rfl rfl rfl ?_)
            | (refine CWr.allocF (t := 26) rfl rfl rfl ?_ ?_)
            | (refine AWL.op (sl := SL) rfl rfl ?_ ?_)
            | (refine FW.float rfl rfl rfl rfl rfl ?_)
            | (refine CWr.op rfl ?_ ?_ ?_)
            | (refine CWr.assign rfl ?_ ?_)
            | (refine CWr.alloc rfl rfl rfl rfl ?_)
            | (refine CWr.build rfl rfl rfl rfl ?_ rfl rfl rfl ?_)
            | (refine AWL.frzA rfl rfl ?_)
            | (refine AWL.callV (f := 34) rfl rfl rfl rfl ?_ (Nat.le_of_ble_eq_true rfl) rfl (rlanes_ok _) ?_; (focus kernel_rfl))
            | (refine AWL.call (f := 34) rfl rfl rfl ?_ rfl (Nat.le_of_ble_eq_true rfl) rfl (rlanes_ok _) ?_; (focus kernel_rfl))
            | (refine CWr.call (f := 34) rfl ?_ rfl (rlanes_ok _) (fun _ _ h => h) ?_ ?_ ?_; (focus kernel_rfl))
            | fail) <;> (try ((first | show AWL _ _ _ _ _ | show AW _ _ _ _ | show FW _ _ _ _ _ _ _ _ _ _ | show CW _ _ _ _ _ _ _ _ _ _ _ _ | (rintro _ _ ⟨rfl, rfl⟩; (try refine And.intro rfl ?_))); (try (conv => arg -1; simp (disch := omega) only [NSX, Nat.reduceBEq, Nat.reduceAdd, Nat.reduceMul, Int.reduceToNat, Nat.reduceSub, TY, slx, take16, drop16, dz, nums_length, S21, e1, e2])))))
          | ((first | refine AWL.guard2 rfl rfl rfl rfl rfl rfl ?_ ?_ | refine CW.guard2 rfl rfl rfl rfl rfl rfl rfl rfl ?_ ?_) <;> (intro hc; (try simp only [Bool.not_true, Bool.not_false] at hc); first | (cases hc; done) | ((try simp only [hc]); (try simp only [beq_iff_eq, bne_iff_ne, decide_eq_true_eq, decide_eq_false_iff_not, beq_eq_false_iff_ne, bne_eq_false_iff_eq, ne_eq, Bool.not_eq_true, Bool.not_eq_false, Bool.not_eq_eq_eq_not, Bool.not_true, Bool.not_false, Decidable.not_not, Int.not_lt, Int.not_le] at hc); (try (exfalso; omega)); (try (guard_hyp hc : True; clear hc)))))
          | (refine AWL.guard2 rfl rfl rfl rfl rfl rfl (fun hc => ?_) ?_; (cases hc; done))
          | ((first | ((show AW _ (.region _ _ true) _ _); refine AW.calm false [] [] hmix (by (repeat' (first | exact panOk_end | exact panOk_endM | refine panOk_then ?_ | refine panOk_block ?_ | refine QEq.pan (by assumption) ?_))) ?_ rfl ?_; (focus (as_aux_lemma => kernel_rfl))) | refine AWL.guardU rfl rfl rfl rfl rfl rfl ?_ | refine CW.guardU rfl rfl rfl rfl rfl rfl rfl rfl ?_); (try (conv => arg -1; simp (disch := omega) only [NSX, Nat.reduceBEq, Nat.reduceAdd, Nat.reduceMul, Int.reduceToNat, Nat.reduceSub, TY, slx, take16, drop16, dz, nums_length, S21, e1, e2])))
          | refine CW.tail rfl ?_
          | (refine AW.cond rfl (fun hc => ?_) (fun hc => ?_) <;> first | (cases hc; done) | ((try simp only [beq_iff_eq, bne_iff_ne, decide_eq_true_eq, decide_eq_false_iff_not, beq_eq_false_iff_ne, bne_eq_false_iff_eq, ne_eq, Bool.not_eq_true, Bool.not_eq_false, Bool.not_eq_eq_eq_not, Bool.not_true, Bool.not_false, Decidable.not_not, Int.not_lt, Int.not_le] at hc); (try (exfalso; omega)); (try (guard_hyp hc : True; clear hc))))
          | ((refine EndQ.mk rfl rfl rfl ?_ ?_ ?_; (focus (first | exact Or.inl rfl | exact Or.inr rfl))) <;> (try simp (disch := omega) only [NSX, Nat.reduceBEq, Nat.reduceAdd, Nat.reduceMul, Int.reduceToNat, Nat.reduceSub, TY, slx, take16, drop16, dz, nums_length, S21, e1, e2]))
          | (focus ((first | exact trivial | omega | (refine And.intro (by kernel_rfl) (And.intro ⟨_, (by first | exact nums_ints _ _ | rfl), (by first | exact nums_ints _ _ | rfl)⟩ (And.intro ?_ ?_)) <;> (first | rfl | assumption | (simp only [nums_length]; omega) | omega)) | (refine And.intro ?_ (And.intro ?_ ?_); (focus kernel_rfl); (focus kernel_rfl); (focus kernel_rfl)) | ((show newKs _ _ _ = true); kernel_rfl) | ((show FitV _ _ _ _ _ _); (repeat' (first | exact trivial | exact Or.inr (Or.inl rfl) | exact Or.inl rfl | exact Or.inr (Or.inr rfl) | refine And.intro ?_ ?_)); done) | assumption | ((first | refine ld_nums i3 _ _ ?_ | refine ld_nums i22 _ _ ?_ | refine ld_nums i5 _ _ ?_ | refine at_nums i3 _ _ ?_ | refine at_nums i22 _ _ ?_ | refine at_nums i5 _ _ ?_); first | assumption | omega | (simp only [List.length_append]; omega)) | (show _ ≤ _; omega) | (simp only [List.length_take, List.length_drop, List.length_append, List.length_cons, List.length_nil]; omega) | ((repeat' (first | exact trivial | exact rfl | exact Nat.le_of_ble_eq_true rfl | refine And.intro ?_ ?_ | fail)); done) | ((try simp (disch := omega) only [NSX, Nat.reduceBEq, Nat.reduceAdd, Nat.reduceMul, Int.reduceToNat, Nat.reduceSub, TY, slx, take16, drop16, dz, nums_length, S21, e1, e2]); (repeat' (first | exact trivial | exact rfl | exact ⟨_, _, rfl⟩ | exact ⟨_, rfl⟩ | exact Nat.le_of_ble_eq_true rfl | exact Nat.zero_lt_succ _ | omega | (simp only [nums_length, toB_len] at *; omega) | refine And.intro ?_ ?_ | fail)); done)); done))
          | fail)
        all_goals first | exact ⟨trivial, trivial⟩ | exact ⟨rfl, trivial⟩ | exact ⟨rfl, rfl⟩ | exact ⟨trivial, rfl⟩ | exact ⟨by rw [hgg], trivial⟩ | (exfalso; omega) | trace_state
      · obtain ⟨k, rfl⟩ : ∃ k, m = k + 1 := ⟨m - 1, by omega⟩
        have e5 : (((k + 1 : Nat) : Int) - 1) = (k : Int) := by omega
        have e3 : IntKind.i64.wrap (((i0 * wb w : Nat) : Int) + (k : Int)) = ((i0 * wb w + k : Nat) : Int) := by rw [← Int.natCast_add]; exact wrap64_id _ (by omega) (by omega)
        have e6 : IntKind.i64.wrap ((k : Int) - 1) = (k : Int) - 1 := wrap64_id _ (by omega) (by omega)
        have e7 := hat k (by omega)
        have hd := le_bound (bytes_drop hby (k + 1))
        have hx := bytes_at hby (k := k) (by omega)
        unfold byte at hx
        have hd2 : le (g.drop (k + 1)) < 2 ^ 56 := by
          have : (2 : Int) ^ (8 * (g.drop (k + 1)).length) ≤ 2 ^ 56 := by exact_mod_cast Nat.pow_le_pow_right (by decide) (by rw [List.length_drop]; omega)
          omega
        have e8 : IntKind.u64.wrap (le (g.drop (k + 1)) * 256) = le (g.drop (k + 1)) * 256 := wrap_in rfl (by omega) (by show _ < (18446744073709551616 : Int); omega)
        have e9 : IntKind.u64.wrap (g.getD k 0) = g.getD k 0 := wrap_in rfl hx.1 (by show _ < (18446744073709551616 : Int); omega)
        have e10 : IntKind.u64.wrap (le (g.drop (k + 1)) * 256 + g.getD k 0) = le (g.drop k) := by
          rw [le_drop (l := g) (k := k) (by omega), wrap_in rfl (by omega) (by show _ < (18446744073709551616 : Int); omega)]; omega
        have hchk : True := by simp only [TY, slx, take16, drop16, dz, nums_length, S21, e1, e2, e3, e5, e6, e7, e8, e9, e10]
        repeat' (first
          | (refine AWL.opN (sl := SL) rfl rfl rfl trivial ?_; (try (conv => arg -1; simp (disch := omega) only [NSX, Nat.reduceBEq, Nat.reduceAdd, Nat.reduceMul, Int.reduceToNat, Nat.reduceSub, TY, slx, take16, drop16, dz, nums_length, S21, e1, e2, e3, e5, e6, e7, e8, e9, e10])))
          | (refine AW.seqQ ?_; intro Qn hQn)
          | (refine AW.blockQ ?_; intro Qn hQn)
          | refine AW.region ?_
          | ((first | refine AW.skip ?_ | refine AW.ret ?_ | refine AW.exit ?_ | refine AWL.nil ?_ | refine CW.nil ?_); (repeat (first | refine QEq.mp (by assumption) ?_ | simp only [thenQ, Go.Abs.blockQ, ↓reduceIte, Nat.reduceEqDiff])))
          | refine FW.nil ?_
          | refine FW.pass rfl rfl ?_
          | refine FW.go rfl ?_
          | refine CW.skip rfl rfl ?_
          | refine CW.step rfl rfl rfl rfl rfl ?_
          | ((first
            | (refine AWL.boxF (t := 26) rfl rfl rfl rfl rfl ?_)
            | (refine AWL.allocF (t := 26) rfl rfl rfl rfl rfl rfl ?_)
            | (refine CWr.allocF (t := 26) rfl rfl rfl ?_ ?_)
            | (refine AWL.op (sl := SL) rfl rfl ?_ ?_)
            | (refine FW.float rfl rfl rfl rfl rfl ?_)
            | (refine CWr.op rfl ?_ ?_ ?_)
            | (refine CWr.assign rfl ?_ ?_)
            | (refine CWr.alloc rfl rfl rfl rfl ?_)
            | (refine CWr.build rfl rfl rfl rfl ?_ rfl rfl rfl ?_)
            | (refine AWL.frzA rfl rfl ?_)
            | (refine AWL.callV (f := 34) rfl rfl rfl rfl ?_ (Nat.le_of_ble_eq_true rfl) rfl (rlanes_ok _) ?_; (focus kernel_rfl))
            | (refine AWL.call (f := 34) rfl rfl rfl ?_ rfl (Nat.le_of_ble_eq_true rfl) rfl (rlanes_ok _) ?_; (focus kernel_rfl))
            | (refine CWr.call (f := 34) rfl ?_ rfl (rlanes_ok _) (fun _ _ h => h) ?_ ?_ ?_; (focus kernel_rfl))
            | fail) <;> (try ((first | show AWL _ _ _ _ _ | show AW _ _ _ _ | show FW _ _ _ _ _ _ _ _ _ _ | show CW _ _ _ _ _ _ _ _ _ _ _ _ | (rintro _ _ ⟨rfl, rfl⟩; (try refine And.intro rfl ?_))); (try (conv => arg -1; simp (disch := omega) only [NSX, Nat.reduceBEq, Nat.reduceAdd, Nat.reduceMul, Int.reduceToNat, Nat.reduceSub, TY, slx, take16, drop16, dz, nums_length, S21, e1, e2, e3, e5, e6, e7, e8, e9, e10])))))
          | ((first | refine AWL.guard2 rfl rfl rfl rfl rfl rfl ?_ ?_ | refine CW.guard2 rfl rfl rfl rfl rfl rfl rfl rfl ?_ ?_) <;> (intro hc; (try simp only [Bool.not_true, Bool.not_false] at hc); first | (cases hc; done) | ((try simp only [hc]); (try simp only [beq_iff_eq, bne_iff_ne, decide_eq_true_eq, decide_eq_false_iff_not, beq_eq_false_iff_ne, bne_eq_false_iff_eq, ne_eq, Bool.not_eq_true, Bool.not_eq_false, Bool.not_eq_eq_eq_not, Bool.not_true, Bool.not_false, Decidable.not_not, Int.not_lt, Int.not_le] at hc); (try (exfalso; omega)); (try (guard_hyp hc : True; clear hc)))))
          | (refine AWL.guard2 rfl rfl rfl rfl rfl rfl (fun hc => ?_) ?_; (cases hc; done))
          | ((first | ((show AW _ (.region _ _ true) _ _); refine AW.calm false [] [] hmix (by (repeat' (first | exact panOk_end | exact panOk_endM | refine panOk_then ?_ | refine panOk_block ?_ | refine QEq.pan (by assumption) ?_))) ?_ rfl ?_; (focus (as_aux_lemma => kernel_rfl))) | refine AWL.guardU rfl rfl rfl rfl rfl rfl ?_ | refine CW.guardU rfl rfl rfl rfl rfl rfl rfl rfl ?_); (try (conv => arg -1; simp (disch := omega) only [NSX, Nat.reduceBEq, Nat.reduceAdd, Nat.reduceMul, Int.reduceToNat, Nat.reduceSub, TY, slx, take16, drop16, dz, nums_length, S21, e1, e2, e3, e5, e6, e7, e8, e9, e10])))
          | refine CW.tail rfl ?_
          | (refine AW.cond rfl (fun hc => ?_) (fun hc => ?_) <;> first | (cases hc; done) | ((try simp only [beq_iff_eq, bne_iff_ne, decide_eq_true_eq, decide_eq_false_iff_not, beq_eq_false_iff_ne, bne_eq_false_iff_eq, ne_eq, Bool.not_eq_true, Bool.not_eq_false, Bool.not_eq_eq_eq_not, Bool.not_true, Bool.not_false, Decidable.not_not, Int.not_lt, Int.not_le] at hc); (try (exfalso; omega)); (try (guard_hyp hc : True; clear hc))))
          | ((refine EndQ.mk rfl rfl rfl ?_ ?_ ?_; (focus (first | exact Or.inl rfl | exact Or.inr rfl))) <;> (try simp (disch := omega) only [NSX, Nat.reduceBEq, Nat.reduceAdd, Nat.reduceMul, Int.reduceToNat, Nat.reduceSub, TY, slx, take16, drop16, dz, nums_length, S21, e1, e2, e3, e5, e6, e7, e8, e9, e10]))
          | (focus ((first | exact trivial | omega | (refine And.intro (by kernel_rfl) (And.intro ⟨_, (by first | exact nums_ints _ _ | rfl), (by first | exact nums_ints _ _ | rfl)⟩ (And.intro ?_ ?_)) <;> (first | rfl | assumption | (simp only [nums_length]; omega) | omega)) | (refine And.intro ?_ (And.intro ?_ ?_); (focus kernel_rfl); (focus kernel_rfl); (focus kernel_rfl)) | ((show newKs _ _ _ = true); kernel_rfl) | ((show FitV _ _ _ _ _ _); (repeat' (first | exact trivial | exact Or.inr (Or.inl rfl) | exact Or.inl rfl | exact Or.inr (Or.inr rfl) | refine And.intro ?_ ?_)); done) | assumption | ((first | refine ld_nums i3 _ _ ?_ | refine ld_nums i22 _ _ ?_ | refine ld_nums i5 _ _ ?_ | refine at_nums i3 _ _ ?_ | refine at_nums i22 _ _ ?_ | refine at_nums i5 _ _ ?_); first | assumption | omega | (simp only [List.length_append]; omega)) | (show _ ≤ _; omega) | (simp only [List.length_take, List.length_drop, List.length_append, List.length_cons, List.length_nil]; omega) | ((repeat' (first | exact trivial | exact rfl | exact Nat.le_of_ble_eq_true rfl | refine And.intro ?_ ?_ | fail)); done) | ((try simp (disch := omega) only [NSX, Nat.reduceBEq, Nat.reduceAdd, Nat.reduceMul, Int.reduceToNat, Nat.reduceSub, TY, slx, take16, drop16, dz, nums_length, S21, e1, e2, e3, e5, e6, e7, e8, e9, e10]); (repeat' (first | exact trivial | exact rfl | exact ⟨_, _, rfl⟩ | exact ⟨_, rfl⟩ | exact Nat.le_of_ble_eq_true rfl | exact Nat.zero_lt_succ _ | omega | (simp only [nums_length, toB_len] at *; omega) | refine And.intro ?_ ?_ | fail)); done)); done))
          | fail)
        all_goals try simp (disch := omega) only [NSX, Nat.reduceBEq, Nat.reduceAdd, Nat.reduceMul, Int.reduceToNat, Nat.reduceSub, TY, slx, take16, drop16, dz, nums_length, S21, e1, e2, e3, e5, e6, e7, e8, e9, e10]
        all_goals first
          | exact ⟨k, by omega, k, rfl, by omega, rfl⟩
          | (exfalso; omega)
          | trace_state
  · have hg : get v w i = 0 := by unfold get; rw [if_neg hi]
    rw [hg]
    refine AC.enter Try.func31 rfl (Nat.le_of_ble_eq_true rfl) ?_
    simp only [Try.f31]
    have hchk : True := by simp only [TY, slx, take16, drop16, dz, nums_length, S21]
    repeat' (first
      | (refine AWL.opN (sl := SL) rfl rfl rfl trivial ?_; (try (conv => arg -1; simp (disch := omega) only [NSX, Nat.reduceBEq, Nat.reduceAdd, Nat.reduceMul, Int.reduceToNat, Nat.reduceSub, TY, slx, take16, drop16, dz, nums_length, S21])))
      | (refine AW.seqQ ?_; intro Qn hQn)
      | (refine AW.blockQ ?_; intro Qn hQn)
      | refine AW.region ?_
      | ((first | refine AW.skip ?_ | refine AW.ret ?_ | refine AW.exit ?_ | refine AWL.nil ?_ | refine CW.nil ?_); (repeat (first | refine QEq.mp (by assumption) ?_ | simp only [thenQ, Go.Abs.blockQ, ↓reduceIte, Nat.reduceEqDiff])))
      | refine FW.nil ?_
      | refine FW.pass rfl rfl ?_
      | refine FW.go rfl ?_
      | refine CW.skip rfl rfl ?_
      | refine CW.step rfl rfl rfl rfl rfl ?_
      | ((first
        | (refine AWL.boxF (t := 26) rfl rfl rfl rfl rfl ?_)
        | (refine AWL.allocF (t := 26) rfl rfl rfl rfl rfl rfl ?_)
        | (refine CWr.allocF (t := 26) rfl rfl rfl ?_ ?_)
        | (refine AWL.op (sl := SL) rfl rfl ?_ ?_)
        | (refine FW.float rfl rfl rfl rfl rfl ?_)
        | (refine CWr.op rfl ?_ ?_ ?_)
        | (refine CWr.assign rfl ?_ ?_)
        | (refine CWr.alloc rfl rfl rfl rfl ?_)
        | (refine CWr.build rfl rfl rfl rfl ?_ rfl rfl rfl ?_)
        | (refine AWL.frzA rfl rfl ?_)
        | (refine AWL.callV (f := 34) rfl rfl rfl rfl ?_ (Nat.le_of_ble_eq_true rfl) rfl (rlanes_ok _) ?_; (focus kernel_rfl))
        | (refine AWL.call (f := 34) rfl rfl rfl ?_ rfl (Nat.le_of_ble_eq_true rfl) rfl (rlanes_ok _) ?_; (focus kernel_rfl))
        | (refine CWr.call (f := 34) rfl ?_ rfl (rlanes_ok _) (fun _ _ h => h) ?_ ?_ ?_; (focus kernel_rfl))
        | fail) <;> (try ((first | show AWL _ _ _ _ _ | show AW _ _ _ _ | show FW _ _ _ _ _ _ _ _ _ _ | show CW _ _ _ _ _ _ _ _ _ _ _ _ | (rintro _ _ ⟨rfl, rfl⟩; (try refine And.intro rfl ?_))); (try (conv => arg -1; simp (disch := omega) only [NSX, Nat.reduceBEq, Nat.reduceAdd, Nat.reduceMul, Int.reduceToNat, Nat.reduceSub, TY, slx, take16, drop16, dz, nums_length, S21])))))
      | ((first | refine AWL.guard2 rfl rfl rfl rfl rfl rfl ?_ ?_ | refine CW.guard2 rfl rfl rfl rfl rfl rfl rfl rfl ?_ ?_) <;> (intro hc; (try simp only [Bool.not_true, Bool.not_false] at hc); first | (cases hc; done) | ((try simp only [hc]); (try simp only [beq_iff_eq, bne_iff_ne, decide_eq_true_eq, decide_eq_false_iff_not, beq_eq_false_iff_ne, bne_eq_false_iff_eq, ne_eq, Bool.not_eq_true, Bool.not_eq_false, Bool.not_eq_eq_eq_not, Bool.not_true, Bool.not_false, Decidable.not_not, Int.not_lt, Int.not_le] at hc); (try (exfalso; omega)); (try (guard_hyp hc : True; clear hc)))))
      | (refine AWL.guard2 rfl rfl rfl rfl rfl rfl (fun hc => ?_) ?_; (cases hc; done))
      | ((first | ((show AW _ (.region _ _ true) _ _); refine AW.calm false [] [] hmix (by (repeat' (first | exact panOk_end | exact panOk_endM | refine panOk_then ?_ | refine panOk_block ?_ | refine QEq.pan (by assumption) ?_))) ?_ rfl ?_; (focus (as_aux_lemma => kernel_rfl))) | refine AWL.guardU rfl rfl rfl rfl rfl rfl ?_ | refine CW.guardU rfl rfl rfl rfl rfl rfl rfl rfl ?_); (try (conv => arg -1; simp (disch := omega) only [NSX, Nat.reduceBEq, Nat.reduceAdd, Nat.reduceMul, Int.reduceToNat, Nat.reduceSub, TY, slx, take16, drop16, dz, nums_length, S21])))
      | refine CW.tail rfl ?_
      | (refine AW.cond rfl (fun hc => ?_) (fun hc => ?_) <;> first | (cases hc; done) | ((try simp only [beq_iff_eq, bne_iff_ne, decide_eq_true_eq, decide_eq_false_iff_not, beq_eq_false_iff_ne, bne_eq_false_iff_eq, ne_eq, Bool.not_eq_true, Bool.not_eq_false, Bool.not_eq_eq_eq_not, Bool.not_true, Bool.not_false, Decidable.not_not, Int.not_lt, Int.not_le] at hc); (try (exfalso; omega)); (try (guard_hyp hc : True; clear hc))))
      | ((refine EndQ.mk rfl rfl rfl ?_ ?_ ?_; (focus (first | exact Or.inl rfl | exact Or.inr rfl))) <;> (try simp (disch := omega) only [NSX, Nat.reduceBEq, Nat.reduceAdd, Nat.reduceMul, Int.reduceToNat, Nat.reduceSub, TY, slx, take16, drop16, dz, nums_length, S21]))
      | (focus ((first | exact trivial | omega | (refine And.intro (by kernel_rfl) (And.intro ⟨_, (by first | exact nums_ints _ _ | rfl), (by first | exact nums_ints _ _ | rfl)⟩ (And.intro ?_ ?_)) <;> (first | rfl | assumption | (simp only [nums_length]; omega) | omega)) | (refine And.intro ?_ (And.intro ?_ ?_); (focus kernel_rfl); (focus kernel_rfl); (focus kernel_rfl)) | ((show newKs _ _ _ = true); kernel_rfl) | ((show FitV _ _ _ _ _ _); (repeat' (first | exact trivial | exact Or.inr (Or.inl rfl) | exact Or.inl rfl | exact Or.inr (Or.inr rfl) | refine And.intro ?_ ?_)); done) | assumption | ((first | refine ld_nums i3 _ _ ?_ | refine ld_nums i22 _ _ ?_ | refine ld_nums i5 _ _ ?_ | refine at_nums i3 _ _ ?_ | refine at_nums i22 _ _ ?_ | refine at_nums i5 _ _ ?_); first | assumption | omega | (simp only [List.length_append]; omega)) | (show _ ≤ _; omega) | (simp only [List.length_take, List.length_drop, List.length_append, List.length_cons, List.length_nil]; omega) | ((repeat' (first | exact trivial | exact rfl | exact Nat.le_of_ble_eq_true rfl | refine And.intro ?_ ?_ | fail)); done) | ((try simp (disch := omega) only [NSX, Nat.reduceBEq, Nat.reduceAdd, Nat.reduceMul, Int.reduceToNat, Nat.reduceSub, TY, slx, take16, drop16, dz, nums_length, S21]); (repeat' (first | exact trivial | exact rfl | exact ⟨_, _, rfl⟩ | exact ⟨_, rfl⟩ | exact Nat.le_of_ble_eq_true rfl | exact Nat.zero_lt_succ _ | omega | (simp only [nums_length, toB_len] at *; omega) | refine And.intro ?_ ?_ | fail)); done)); done))
      | fail)
    all_goals first | exact ⟨trivial, trivial⟩ | exact ⟨rfl, trivial⟩ | exact ⟨rfl, rfl⟩ | exact ⟨trivial, rfl⟩ | (exfalso; omega) | trace_state
end Go.Proofs.Ytgmhfbdmigfgbaa
