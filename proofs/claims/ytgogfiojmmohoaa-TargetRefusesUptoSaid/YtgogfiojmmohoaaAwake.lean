/- awake. -/
import Derived.Test.YtgogfiojmmohoaaV5
import Derived.Test.YtgogfiojmmohoaaHLook
import Derived.Test.YtgogfiojmmohoaaSameI
import Derived.Test.YtgogfiojmmohoaaPrg
import Derived.Test.YtgogfiojmmohoaaScalar
namespace Go.Proofs.Ytgogfiojmmohoaa
set_option linter.unusedSimpArgs false
set_option linter.unusedVariables false
open Go Go.Abs
attribute [local irreducible] AW AWL AC FW CW CWr IntKind.wrap

instance (x : Int) : Decidable (okI x) := by unfold okI; infer_instance
def pgA (cs : List Cl) : Pg := ⟨[([], [126])], [⟨-1, 0, 0, 1, 0, cs, []⟩]⟩
def csA : List Cl := [(66, 0, 5), (13, 0, 0), (66, 0, 1), (15, 0, 0)]
def csB : List Cl := [(26, 0, 0), (15, 0, 0)]
theorem okP_A (cs : List Cl) (h : cs.all (fun c => decide (okI c.1 ∧ okI c.2.1 ∧ 0 ≤ c.2.2 ∧ c.2.2 < 18446744073709551616)) = true) (hl : cs.length ≤ 2000000) : okP (pgA cs) := by
  refine ⟨by show 1 ≤ _; decide, by show 1 ≤ _; decide, fun s hs => ?_, fun f hf => ?_⟩
  · simp [pgA] at hs; subst hs; unfold okS; decide
  · simp only [pgA, List.mem_singleton] at hf; subst hf
    refine ⟨hl, by simp, by simp only [okI]; omega, by simp only [okI]; omega, by simp only [okI]; omega, by simp only [okI]; omega, by simp only [okI]; omega, fun c hc => ?_⟩
    have := of_decide_eq_true (List.all_eq_true.1 h c hc); exact this
/-- a program whose lists are nil -/
theorem les_A (n : Nat) (cs : List V) (l : List V) : Les ([.agg [.view 1 2 [.nils, .view 1 1 (nums .i64 [126])], .view 1 7 [.int .i64 (-1), .int .i64 0, .int .i64 0, .int .i64 1, .int .i64 0, .view n 3 cs, .nils]]] ++ l) ([.agg [.view 1 2 [.view 0 1 [], .view 1 1 (nums .i64 [126])], .view 1 7 [.int .i64 (-1), .int .i64 0, .int .i64 0, .int .i64 1, .int .i64 0, .view n 3 cs, .view 0 1 []]]] ++ l) := by
  refine .cons (.agg (.cons (.view (.cons (.nil 1) (.cons (.same _) .nil))) (.cons (.view (.cons (.same _) (.cons (.same _) (.cons (.same _) (.cons (.same _) (.cons (.same _) (.cons (.same _) (.cons (.nil 1) .nil)))))))) .nil))) ?_
  induction l with
  | nil => exact .nil
  | cons x l ih => exact .cons (.same _) ih
set_option maxRecDepth 4000 in
set_option maxHeartbeats 6400000 in
theorem awake_ok : AC Try.prog 7 [] (fun r m => r = .bool true ∧ m = []) := by
  have oA : okP (pgA csA) := okP_A csA (by decide +kernel) (by decide)
  have oB : okP (pgA csB) := okP_A csB (by decide +kernel) (by decide)
  have o0 : okP (pgA []) := okP_A [] (by decide +kernel) (by decide)
  have hp1 := prog_ok 4 (celC csA)
  have hp2 := prog_ok 2 (celC csB)
  have hp3 := AC.le (args := [.nils]) (prog_ok 0 []) (.cons (.nil 3) .nil)
  have hh1 := AC.le (heights_look (pgA csA) oA 0) (les_A 4 (celC csA) [.int .i64 0])
  rw [show heiS (pgA csA) 0 = some [0, 1, 0, 1] from by decide +kernel] at hh1
  have hh2 := AC.le (heights_look (pgA csB) oB 0) (les_A 2 (celC csB) [.int .i64 0])
  rw [show heiS (pgA csB) 0 = none from by decide +kernel] at hh2
  have hef := AC.le (effect_oa (pgA csA) oA 0 27 0 0 (by decide)) (les_A 4 (celC csA) [.int .i64 0, .agg [.int .i64 27, .int .i64 0, .int .u64 0]])
  rw [show outS (pgA csA) 0 (27, 0, 0) = (3, 1) from by decide +kernel] at hef
  have hsi := sameI_at 4 4 [0, 1, 0, 1] [0, 1, 0, 1] rfl rfl (by decide)
  rw [show decide ([0, 1, 0, 1] = [(0 : Int), 1, 0, 1]) = true from by decide] at hsi
  have hs1 := scalar_ok 106
  rw [show scS 106 = true from by decide +kernel] at hs1
  have hs2 := scalar_ok 64768
  rw [show scS 64768 = false from by decide +kernel] at hs2
  have hc1 := AC.le (check_ag (pgA csA) oA) (les_A 4 (celC csA) [])
  rw [show errS (pgA csA) = 0 from by decide +kernel] at hc1
  have hc3 := AC.le (check_ag (pgA []) o0) (les_A 0 (celC []) [])
  rw [show errS (pgA []) = 1 from by decide +kernel] at hc3
  simp only [celC, csA, csB, rowsC, tcel, List.cons_append, List.nil_append, Option.getD_some, Option.getD_none, List.length_cons, List.length_nil, Nat.zero_add, Nat.reduceAdd, Option.isSome] at hp1 hp2 hh1 hh2 hef hc1 hc3
  refine AC.enter Try.func7 rfl (Nat.le_of_ble_eq_true rfl) ?_
  simp only [Try.f7]
  have hchk : True := by simp only [TY, SLS, List.set_cons_zero, List.set_cons_succ, sl27, sl25, sl36, sl3, sl4, sl5, sl9, nums_length, byts_V, byts_len]
  repeat' (first
    | ((with_reducible show AWL _ _ _ _ _); first
        | (refine AWL.opN (sl := SL) rfl rfl rfl trivial ?_; (try (conv => arg -1; simp (disch := omega) only [NSX, St.keepS, Nat.reduceBEq, Nat.reduceAdd, Nat.reduceMul, Int.reduceToNat, Nat.reduceSub, TY, SLS, List.set_cons_zero, List.set_cons_succ, sl27, sl25, sl36, sl3, sl4, sl5, sl9, nums_length, byts_V, byts_len])))
        | (refine AWL.nil ?_; (repeat (first | refine QEq.mp (by assumption) ?_ | simp only [thenQ, Go.Abs.blockQ, ↓reduceIte, Nat.reduceEqDiff])))
        | ((first | (refine AWL.boxF (t := 64) rfl rfl rfl rfl rfl ?_) | (refine AWL.allocF (t := 64) rfl rfl rfl rfl rfl rfl ?_) | (refine AWL.op (sl := SL) rfl rfl ?_ ?_) | ((show AWL _ _ ({ dst := _, op := _, type := _, pos := _, after := _, guard := none } :: _) _ _); refine AWL.frzA rfl rfl ?_) | (refine AWL.callV (f := 16) rfl rfl rfl rfl ?_ (Nat.le_of_ble_eq_true rfl) rfl (hp1) ?_; (focus kernel_rfl)) | (refine AWL.call (f := 16) rfl rfl rfl ?_ rfl (Nat.le_of_ble_eq_true rfl) rfl (hp1) ?_; (focus kernel_rfl)) | (refine AWL.callV (f := 16) rfl rfl rfl rfl ?_ (Nat.le_of_ble_eq_true rfl) rfl (hp2) ?_; (focus kernel_rfl)) | (refine AWL.call (f := 16) rfl rfl rfl ?_ rfl (Nat.le_of_ble_eq_true rfl) rfl (hp2) ?_; (focus kernel_rfl)) | (refine AWL.callV (f := 16) rfl rfl rfl rfl ?_ (Nat.le_of_ble_eq_true rfl) rfl (hp3) ?_; (focus kernel_rfl)) | (refine AWL.call (f := 16) rfl rfl rfl ?_ rfl (Nat.le_of_ble_eq_true rfl) rfl (hp3) ?_; (focus kernel_rfl)) | (refine AWL.callV (f := 8) rfl rfl rfl rfl ?_ (Nat.le_of_ble_eq_true rfl) rfl (hh1) ?_; (focus kernel_rfl)) | (refine AWL.call (f := 8) rfl rfl rfl ?_ rfl (Nat.le_of_ble_eq_true rfl) rfl (hh1) ?_; (focus kernel_rfl)) | (refine AWL.callV (f := 8) rfl rfl rfl rfl ?_ (Nat.le_of_ble_eq_true rfl) rfl (hh2) ?_; (focus kernel_rfl)) | (refine AWL.call (f := 8) rfl rfl rfl ?_ rfl (Nat.le_of_ble_eq_true rfl) rfl (hh2) ?_; (focus kernel_rfl)) | (refine AWL.callV (f := 10) rfl rfl rfl rfl ?_ (Nat.le_of_ble_eq_true rfl) rfl (hef) ?_; (focus kernel_rfl)) | (refine AWL.call (f := 10) rfl rfl rfl ?_ rfl (Nat.le_of_ble_eq_true rfl) rfl (hef) ?_; (focus kernel_rfl)) | (refine AWL.callV (f := 12) rfl rfl rfl rfl ?_ (Nat.le_of_ble_eq_true rfl) rfl (hsi) ?_; (focus kernel_rfl)) | (refine AWL.call (f := 12) rfl rfl rfl ?_ rfl (Nat.le_of_ble_eq_true rfl) rfl (hsi) ?_; (focus kernel_rfl)) | (refine AWL.callV (f := 15) rfl rfl rfl rfl ?_ (Nat.le_of_ble_eq_true rfl) rfl (hs1) ?_; (focus kernel_rfl)) | (refine AWL.call (f := 15) rfl rfl rfl ?_ rfl (Nat.le_of_ble_eq_true rfl) rfl (hs1) ?_; (focus kernel_rfl)) | (refine AWL.callV (f := 15) rfl rfl rfl rfl ?_ (Nat.le_of_ble_eq_true rfl) rfl (hs2) ?_; (focus kernel_rfl)) | (refine AWL.call (f := 15) rfl rfl rfl ?_ rfl (Nat.le_of_ble_eq_true rfl) rfl (hs2) ?_; (focus kernel_rfl)) | (refine AWL.callV (f := 9) rfl rfl rfl rfl ?_ (Nat.le_of_ble_eq_true rfl) rfl (hc1) ?_; (focus kernel_rfl)) | (refine AWL.call (f := 9) rfl rfl rfl ?_ rfl (Nat.le_of_ble_eq_true rfl) rfl (hc1) ?_; (focus kernel_rfl)) | (refine AWL.callV (f := 9) rfl rfl rfl rfl ?_ (Nat.le_of_ble_eq_true rfl) rfl (hc3) ?_; (focus kernel_rfl)) | (refine AWL.call (f := 9) rfl rfl rfl ?_ rfl (Nat.le_of_ble_eq_true rfl) rfl (hc3) ?_; (focus kernel_rfl))) <;> (try ((first | show AWL _ _ _ _ _ | show AW _ _ _ _ | show FW _ _ _ _ _ _ _ _ _ _ | show CW _ _ _ _ _ _ _ _ _ _ _ _ | (rintro _ _ ⟨rfl, rfl⟩; (try refine And.intro rfl ?_))); (try (conv => arg -1; simp (disch := omega) only [NSX, St.keepS, Nat.reduceBEq, Nat.reduceAdd, Nat.reduceMul, Int.reduceToNat, Nat.reduceSub, TY, SLS, List.set_cons_zero, List.set_cons_succ, sl27, sl25, sl36, sl3, sl4, sl5, sl9, nums_length, byts_V, byts_len])))))
        | (refine AWL.guard2 rfl rfl rfl rfl rfl rfl ?_ ?_ <;> (intro hc; (try simp only [Bool.not_true, Bool.not_false] at hc); first | (cases hc; done) | ((try simp only [hc]); (try simp only [beq_iff_eq, bne_iff_ne, decide_eq_true_eq, decide_eq_false_iff_not, beq_eq_false_iff_ne, bne_eq_false_iff_eq, ne_eq, Bool.not_eq_true, Bool.not_eq_false, Bool.not_eq_eq_eq_not, Bool.not_true, Bool.not_false, Decidable.not_not, Int.not_lt, Int.not_le, decide_eq_decide, not_true_eq_false] at hc); (try (exfalso; omega)); (try (guard_hyp hc : True; clear hc)))) <;> (try (first | (with_reducible show AWL _ _ _ _ (St.put _ _ _)) | (with_reducible show CW _ _ _ _ _ _ _ _ _ _ _ (St.put _ _ _))); (try (conv => arg -1; simp (disch := omega) only [NSX, St.keepS, Nat.reduceBEq, Nat.reduceAdd, Nat.reduceMul, Int.reduceToNat, Nat.reduceSub, TY, SLS, List.set_cons_zero, List.set_cons_succ, sl27, sl25, sl36, sl3, sl4, sl5, sl9, nums_length, byts_V, byts_len]))))
        | (refine AWL.guard2 rfl rfl rfl rfl rfl rfl (fun hc => ?_) ?_; (cases hc; done))
        | (refine AWL.guardU rfl rfl rfl rfl rfl rfl ?_; (try (conv => arg -1; simp (disch := omega) only [NSX, St.keepS, Nat.reduceBEq, Nat.reduceAdd, Nat.reduceMul, Int.reduceToNat, Nat.reduceSub, TY, SLS, List.set_cons_zero, List.set_cons_succ, sl27, sl25, sl36, sl3, sl4, sl5, sl9, nums_length, byts_V, byts_len]))))
    | ((with_reducible show CWr _ _ _ _ _ _ _ _ _ _ _ _ _ _); first
        | ((first | (refine CWr.allocF (t := 64) rfl rfl rfl ?_ ?_) | (refine CWr.op rfl ?_ ?_ ?_) | (refine CWr.assign rfl ?_ ?_) | (refine CWr.alloc rfl rfl rfl rfl ?_) | (refine CWr.build rfl rfl rfl rfl ?_ rfl rfl rfl ?_) | (refine CWr.call (f := 16) rfl ?_ rfl (hp1) (fun _ _ h => h) ?_ ?_ ?_; (focus kernel_rfl)) | (refine CWr.call (f := 16) rfl ?_ rfl (hp2) (fun _ _ h => h) ?_ ?_ ?_; (focus kernel_rfl)) | (refine CWr.call (f := 16) rfl ?_ rfl (hp3) (fun _ _ h => h) ?_ ?_ ?_; (focus kernel_rfl)) | (refine CWr.call (f := 8) rfl ?_ rfl (hh1) (fun _ _ h => h) ?_ ?_ ?_; (focus kernel_rfl)) | (refine CWr.call (f := 8) rfl ?_ rfl (hh2) (fun _ _ h => h) ?_ ?_ ?_; (focus kernel_rfl)) | (refine CWr.call (f := 10) rfl ?_ rfl (hef) (fun _ _ h => h) ?_ ?_ ?_; (focus kernel_rfl)) | (refine CWr.call (f := 12) rfl ?_ rfl (hsi) (fun _ _ h => h) ?_ ?_ ?_; (focus kernel_rfl)) | (refine CWr.call (f := 15) rfl ?_ rfl (hs1) (fun _ _ h => h) ?_ ?_ ?_; (focus kernel_rfl)) | (refine CWr.call (f := 15) rfl ?_ rfl (hs2) (fun _ _ h => h) ?_ ?_ ?_; (focus kernel_rfl)) | (refine CWr.call (f := 9) rfl ?_ rfl (hc1) (fun _ _ h => h) ?_ ?_ ?_; (focus kernel_rfl)) | (refine CWr.call (f := 9) rfl ?_ rfl (hc3) (fun _ _ h => h) ?_ ?_ ?_; (focus kernel_rfl))) <;> (try ((first | show AWL _ _ _ _ _ | show AW _ _ _ _ | show FW _ _ _ _ _ _ _ _ _ _ | show CW _ _ _ _ _ _ _ _ _ _ _ _ | (rintro _ _ ⟨rfl, rfl⟩; (try refine And.intro rfl ?_))); (try (conv => arg -1; simp (disch := omega) only [NSX, St.keepS, Nat.reduceBEq, Nat.reduceAdd, Nat.reduceMul, Int.reduceToNat, Nat.reduceSub, TY, SLS, List.set_cons_zero, List.set_cons_succ, sl27, sl25, sl36, sl3, sl4, sl5, sl9, nums_length, byts_V, byts_len]))))))
    | ((with_reducible show CW _ _ _ _ _ _ _ _ _ _ _ _); first
        | refine CW.skip rfl rfl ?_
        | refine CW.step rfl rfl rfl rfl rfl ?_
        | (refine CW.nil ?_; (repeat (first | refine QEq.mp (by assumption) ?_ | simp only [thenQ, Go.Abs.blockQ, ↓reduceIte, Nat.reduceEqDiff])))
        | (refine CW.guard2 rfl rfl rfl rfl rfl rfl rfl rfl ?_ ?_ <;> (intro hc; (try simp only [Bool.not_true, Bool.not_false] at hc); first | (cases hc; done) | ((try simp only [hc]); (try simp only [beq_iff_eq, bne_iff_ne, decide_eq_true_eq, decide_eq_false_iff_not, beq_eq_false_iff_ne, bne_eq_false_iff_eq, ne_eq, Bool.not_eq_true, Bool.not_eq_false, Bool.not_eq_eq_eq_not, Bool.not_true, Bool.not_false, Decidable.not_not, Int.not_lt, Int.not_le, decide_eq_decide, not_true_eq_false] at hc); (try (exfalso; omega)); (try (guard_hyp hc : True; clear hc)))) <;> (try (first | (with_reducible show AWL _ _ _ _ (St.put _ _ _)) | (with_reducible show CW _ _ _ _ _ _ _ _ _ _ _ (St.put _ _ _))); (try (conv => arg -1; simp (disch := omega) only [NSX, St.keepS, Nat.reduceBEq, Nat.reduceAdd, Nat.reduceMul, Int.reduceToNat, Nat.reduceSub, TY, SLS, List.set_cons_zero, List.set_cons_succ, sl27, sl25, sl36, sl3, sl4, sl5, sl9, nums_length, byts_V, byts_len]))))
        | (refine CW.guardU rfl rfl rfl rfl rfl rfl rfl rfl ?_; (try (conv => arg -1; simp (disch := omega) only [NSX, St.keepS, Nat.reduceBEq, Nat.reduceAdd, Nat.reduceMul, Int.reduceToNat, Nat.reduceSub, TY, SLS, List.set_cons_zero, List.set_cons_succ, sl27, sl25, sl36, sl3, sl4, sl5, sl9, nums_length, byts_V, byts_len])))
        | refine CW.tail rfl ?_)
    | ((with_reducible show True); first
        | exact trivial)
    | ((with_reducible show FitV _ _ _ _ _ _); first
        | ((repeat' (first | exact trivial | exact Or.inr (Or.inl rfl) | exact Or.inl rfl | exact Or.inr (Or.inr rfl) | refine And.intro ?_ ?_)); done))
    | ((with_reducible show newKs _ _ _ = true); first
        | kernel_rfl)
    | ((with_reducible show FW _ _ _ _ _ _ _ _ _ _); first
        | refine FW.pass rfl rfl ?_
        | refine FW.go rfl ?_
        | refine FW.nil ?_
        | ((first | (refine FW.float rfl rfl rfl rfl rfl ?_)) <;> (try ((first | show AWL _ _ _ _ _ | show AW _ _ _ _ | show FW _ _ _ _ _ _ _ _ _ _ | show CW _ _ _ _ _ _ _ _ _ _ _ _ | (rintro _ _ ⟨rfl, rfl⟩; (try refine And.intro rfl ?_))); (try (conv => arg -1; simp (disch := omega) only [NSX, St.keepS, Nat.reduceBEq, Nat.reduceAdd, Nat.reduceMul, Int.reduceToNat, Nat.reduceSub, TY, SLS, List.set_cons_zero, List.set_cons_succ, sl27, sl25, sl36, sl3, sl4, sl5, sl9, nums_length, byts_V, byts_len]))))))
    | ((with_reducible show AW _ _ _ _); first
        | (refine AW.seqQ ?_; intro Qn hQn; (try have hPn := QEq.pan hQn (panOk_then (by (first | assumption | exact panOk_end | exact panOk_endM | exact panOk_then (by first | assumption | exact panOk_end | exact panOk_endM) | exact panOk_block (by first | assumption | exact panOk_end | exact panOk_endM))))))
        | (refine AW.blockQ ?_; intro Qn hQn; (try have hPn := QEq.pan hQn (panOk_block (by (first | assumption | exact panOk_end | exact panOk_endM | exact panOk_then (by first | assumption | exact panOk_end | exact panOk_endM) | exact panOk_block (by first | assumption | exact panOk_end | exact panOk_endM))))))
        | ((show AW _ (.region _ _ false) _ _); refine AW.keepS [0, 1, 2, 3, 5, 6, 7] ?_; (try (conv => arg -1; simp (disch := omega) only [NSX, St.keepS, Nat.reduceBEq, Nat.reduceAdd, Nat.reduceMul, Int.reduceToNat, Nat.reduceSub, TY, SLS, List.set_cons_zero, List.set_cons_succ, sl27, sl25, sl36, sl3, sl4, sl5, sl9, nums_length, byts_V, byts_len])); refine AW.region ?_)
        | ((first | refine AW.skip ?_ | refine AW.ret ?_ | refine AW.exit ?_); (repeat (first | refine QEq.mp (by assumption) ?_ | simp only [thenQ, Go.Abs.blockQ, ↓reduceIte, Nat.reduceEqDiff])))
        | (refine AW.cond rfl (fun hc => ?_) (fun hc => ?_) <;> first | (cases hc; done) | ((try simp only [beq_iff_eq, bne_iff_ne, decide_eq_true_eq, decide_eq_false_iff_not, beq_eq_false_iff_ne, bne_eq_false_iff_eq, ne_eq, Bool.not_eq_true, Bool.not_eq_false, Bool.not_eq_eq_eq_not, Bool.not_true, Bool.not_false, Decidable.not_not, Int.not_lt, Int.not_le, decide_eq_decide, not_true_eq_false] at hc); (try (exfalso; omega)); (try (guard_hyp hc : True; clear hc))))
        | (((show AW _ (.region _ _ true) _ _); refine AW.keepS [0, 1, 2, 3, 5, 6, 7] ?_; (try (conv => arg -1; simp (disch := omega) only [NSX, St.keepS, Nat.reduceBEq, Nat.reduceAdd, Nat.reduceMul, Int.reduceToNat, Nat.reduceSub, TY, SLS, List.set_cons_zero, List.set_cons_succ, sl27, sl25, sl36, sl3, sl4, sl5, sl9, nums_length, byts_V, byts_len])); refine AW.calm false [] [] hmix ?hpan ?hchkc rfl ?_; (case hchkc => (as_aux_lemma => kernel_rfl)); (case hpan => exact (by first | first | assumption | exact panOk_end | exact panOk_endM | exact panOk_then (by first | assumption | exact panOk_end | exact panOk_endM) | exact panOk_block (by first | assumption | exact panOk_end | exact panOk_endM) | (repeat' (first | exact panOk_end | exact panOk_endM | refine panOk_then ?_ | refine panOk_block ?_ | refine QEq.pan (by assumption) ?_))))); (try (conv => arg -1; simp (disch := omega) only [NSX, St.keepS, Nat.reduceBEq, Nat.reduceAdd, Nat.reduceMul, Int.reduceToNat, Nat.reduceSub, TY, SLS, List.set_cons_zero, List.set_cons_succ, sl27, sl25, sl36, sl3, sl4, sl5, sl9, nums_length, byts_V, byts_len]))))
    | ((refine EndQ.mk rfl rfl rfl ?_ ?_ ?_; (focus (first | exact Or.inl rfl | exact Or.inr rfl))) <;> (try simp (disch := omega) only [NSX, St.keepS, Nat.reduceBEq, Nat.reduceAdd, Nat.reduceMul, Int.reduceToNat, Nat.reduceSub, TY, SLS, List.set_cons_zero, List.set_cons_succ, sl27, sl25, sl36, sl3, sl4, sl5, sl9, nums_length, byts_V, byts_len]))
    | (focus ((first | exact trivial | omega | (refine And.intro (by kernel_rfl) (And.intro ⟨_, (by first | exact nums_ints _ _ | rfl), (by first | exact nums_ints _ _ | rfl)⟩ (And.intro ?_ ?_)) <;> (first | rfl | assumption | (simp only [nums_length]; omega) | omega)) | (refine And.intro ?_ (And.intro ?_ ?_); (focus kernel_rfl); (focus kernel_rfl); (focus kernel_rfl)) | ((show newKs _ _ _ = true); kernel_rfl) | ((show FitV _ _ _ _ _ _); (repeat' (first | exact trivial | exact Or.inr (Or.inl rfl) | exact Or.inl rfl | exact Or.inr (Or.inr rfl) | refine And.intro ?_ ?_)); done) | assumption | ((first | refine ld_nums i3 _ _ ?_ | refine ld_nums i5 _ _ ?_ | refine at_nums i3 _ _ ?_ | refine at_nums i5 _ _ ?_); first | assumption | omega | (simp only [List.length_append]; omega)) | (show _ ≤ _; omega) | (simp only [List.length_take, List.length_drop, List.length_append, List.length_cons, List.length_nil]; omega) | ((repeat' (first | exact trivial | exact rfl | exact Nat.le_of_ble_eq_true rfl | refine And.intro ?_ ?_ | fail)); done) | ((try simp (disch := omega) only [NSX, St.keepS, Nat.reduceBEq, Nat.reduceAdd, Nat.reduceMul, Int.reduceToNat, Nat.reduceSub, TY, SLS, List.set_cons_zero, List.set_cons_succ, sl27, sl25, sl36, sl3, sl4, sl5, sl9, nums_length, byts_V, byts_len]); (repeat' (first | exact trivial | exact rfl | exact ⟨_, _, rfl⟩ | exact ⟨_, rfl⟩ | exact Nat.le_of_ble_eq_true rfl | exact Nat.zero_lt_succ _ | omega | (simp only [nums_length, byts_len] at *; omega) | refine And.intro ?_ ?_ | fail)); done)); done))
    | fail)
  all_goals first | exact ⟨trivial, trivial⟩ | exact ⟨rfl, trivial⟩ | exact ⟨rfl, rfl⟩ | exact ⟨trivial, rfl⟩ | (exfalso; omega) | trace_state
end Go.Proofs.Ytgogfiojmmohoaa
