/- SplitBack. -/
import Derived.Test.YtbdmieljkgcpcaaV5
import Derived.Test.YtbdmieljkgcpcaaAwake
import Derived.Test.YtbdmieljkgcpcaaSame
import Derived.Test.YtbdmieljkgcpcaaOff
import Derived.Test.YtbdmieljkgcpcaaPTake
import Derived.Test.YtbdmieljkgcpcaaPBack
namespace Go.Proofs.Ytbdmieljkgcpcaa
set_option linter.unusedSimpArgs false
set_option linter.unusedVariables false
open Go Go.Abs
attribute [local irreducible] AW AWL AC FW CW CWr IntKind.wrap

def B9 (ts : List Int) (vs : List (List Int)) (X I A : List Int) (i : Int) : St := { n := 166, slots := [(0, .view ts.length 1 (nums .i64 ts)), (1, .view vs.length 16 (vecC vs)), (4, .bool false), (5, .ref 5 0 X.length 1), (7, .ref 7 0 X.length 1), (8, .ref 8 0 ts.length 1), (9, .int .i64 i)], mem := [(5, ⟨true, nums .u64 X⟩), (7, ⟨true, nums .i64 I⟩), (8, ⟨true, nums .i64 A⟩)] }
def B14 (X I : List Int) (i : Int) : St := { n := 166, slots := [(4, .bool false), (5, .view X.length 1 (nums .u64 X)), (7, .view X.length 1 (nums .i64 I)), (13, .ref 13 0 X.length 1), (14, .int .i64 i)], mem := [(13, ⟨true, nums .u64 X⟩)] }
set_option maxRecDepth 8000 in
set_option maxHeartbeats 12800000 in
theorem splitBack_no (ts : List Int) (vs : List (List Int)) (hv : vecs vs) (hlen : ts.length ≤ 1048576) (hno : ¬(okTs ts = true ∧ ts.length = vs.length)) :
    AC Try.prog 8 [.view ts.length 1 (nums .i64 ts), .view vs.length 16 (vecC vs)] (fun r m => r = .bool true ∧ m = []) := by
  have hput1 := put_ok ts vs hv (by omega)
  rw [put_not ts vs hno] at hput1
  have hput2 : True := trivial
  have htake : True := trivial
  have htypes1 : True := trivial
  have htypes2 : True := trivial
  have hoffs : True := trivial
  have hwidth1 : True := trivial
  have hwidth2 : True := trivial
  have hsame : True := trivial
  have hv1 : True := trivial
  have hv2 : True := trivial
  refine AC.enter Try.func8 rfl (Nat.le_of_ble_eq_true rfl) ?_
  simp only [Try.f8]
  have hchk : True := by simp only [TY, slx, take16, drop16, dz, nums_length, B9, B14]
  repeat' (first
    | (refine AWL.opN (sl := SL) rfl rfl rfl trivial ?_; (try (conv => arg -1; simp (disch := omega) only [NSX, Nat.reduceBEq, Nat.reduceAdd, Nat.reduceMul, Int.reduceToNat, Nat.reduceSub, TY, slx, take16, drop16, dz, nums_length, B9, B14])))
    | (refine AW.seqQ ?_; intro Qn hQn)
    | (refine AW.blockQ ?_; intro Qn hQn)
    | refine AW.region ?_
    | ((first | refine AW.skip ?_ | refine AW.ret ?_ | refine AW.exit ?_ | refine AWL.nil ?_ | refine CW.nil ?_); (repeat (first | refine QEq.mp (by assumption) ?_ | simp only [thenQ, Go.Abs.blockQ, ↓reduceIte, Nat.reduceEqDiff])))
    | refine FW.nil ?_
    | refine FW.pass rfl rfl ?_
    | refine FW.go rfl ?_
    | refine CW.skip rfl rfl ?_
    | refine CW.step rfl rfl rfl rfl rfl ?_
    | ((first
      | (refine AWL.boxF (t := 57) rfl rfl rfl rfl rfl ?_)
      | (refine AWL.allocF (t := 57) rfl rfl rfl rfl rfl rfl ?_)
      | (refine CWr.allocF (t := 57) rfl rfl rfl ?_ ?_)
      | (refine AWL.op (sl := SL) rfl rfl ?_ ?_)
      | (refine FW.float rfl rfl rfl rfl rfl ?_)
      | (refine CWr.op rfl ?_ ?_ ?_)
      | (refine CWr.assign rfl ?_ ?_)
      | (refine CWr.alloc rfl rfl rfl rfl ?_)
      | (refine CWr.build rfl rfl rfl rfl ?_ rfl rfl rfl ?_)
      | ((show AWL _ _ ({ dst := _, op := _, type := _, pos := _, after := _, guard := none } :: _) _ _); refine AWL.frzA rfl rfl ?_)
      | (refine AWL.callV (f := 9) rfl rfl rfl rfl ?_ (Nat.le_of_ble_eq_true rfl) rfl (awake_ok) ?_; (focus kernel_rfl))
      | (refine AWL.call (f := 9) rfl rfl rfl ?_ rfl (Nat.le_of_ble_eq_true rfl) rfl (awake_ok) ?_; (focus kernel_rfl))
      | (refine CWr.call (f := 9) rfl ?_ rfl (awake_ok) (fun _ _ h => h) ?_ ?_ ?_; (focus kernel_rfl))
      | (refine AWL.callV (f := 21) rfl rfl rfl rfl ?_ (Nat.le_of_ble_eq_true rfl) rfl (hput1) ?_; (focus kernel_rfl))
      | (refine AWL.call (f := 21) rfl rfl rfl ?_ rfl (Nat.le_of_ble_eq_true rfl) rfl (hput1) ?_; (focus kernel_rfl))
      | (refine CWr.call (f := 21) rfl ?_ rfl (hput1) (fun _ _ h => h) ?_ ?_ ?_; (focus kernel_rfl))
      | (refine AWL.callV (f := 21) rfl rfl rfl rfl ?_ (Nat.le_of_ble_eq_true rfl) rfl (hput2) ?_; (focus kernel_rfl))
      | (refine AWL.call (f := 21) rfl rfl rfl ?_ rfl (Nat.le_of_ble_eq_true rfl) rfl (hput2) ?_; (focus kernel_rfl))
      | (refine CWr.call (f := 21) rfl ?_ rfl (hput2) (fun _ _ h => h) ?_ ?_ ?_; (focus kernel_rfl))
      | (refine AWL.callV (f := 23) rfl rfl rfl rfl ?_ (Nat.le_of_ble_eq_true rfl) rfl (htake) ?_; (focus kernel_rfl))
      | (refine AWL.call (f := 23) rfl rfl rfl ?_ rfl (Nat.le_of_ble_eq_true rfl) rfl (htake) ?_; (focus kernel_rfl))
      | (refine CWr.call (f := 23) rfl ?_ rfl (htake) (fun _ _ h => h) ?_ ?_ ?_; (focus kernel_rfl))
      | (refine AWL.callV (f := 15) rfl rfl rfl rfl ?_ (Nat.le_of_ble_eq_true rfl) rfl (htypes1) ?_; (focus kernel_rfl))
      | (refine AWL.call (f := 15) rfl rfl rfl ?_ rfl (Nat.le_of_ble_eq_true rfl) rfl (htypes1) ?_; (focus kernel_rfl))
      | (refine CWr.call (f := 15) rfl ?_ rfl (htypes1) (fun _ _ h => h) ?_ ?_ ?_; (focus kernel_rfl))
      | (refine AWL.callV (f := 15) rfl rfl rfl rfl ?_ (Nat.le_of_ble_eq_true rfl) rfl (htypes2) ?_; (focus kernel_rfl))
      | (refine AWL.call (f := 15) rfl rfl rfl ?_ rfl (Nat.le_of_ble_eq_true rfl) rfl (htypes2) ?_; (focus kernel_rfl))
      | (refine CWr.call (f := 15) rfl ?_ rfl (htypes2) (fun _ _ h => h) ?_ ?_ ?_; (focus kernel_rfl))
      | (refine AWL.callV (f := 16) rfl rfl rfl rfl ?_ (Nat.le_of_ble_eq_true rfl) rfl (hoffs) ?_; (focus kernel_rfl))
      | (refine AWL.call (f := 16) rfl rfl rfl ?_ rfl (Nat.le_of_ble_eq_true rfl) rfl (hoffs) ?_; (focus kernel_rfl))
      | (refine CWr.call (f := 16) rfl ?_ rfl (hoffs) (fun _ _ h => h) ?_ ?_ ?_; (focus kernel_rfl))
      | (refine AWL.callV (f := 12) rfl rfl rfl rfl ?_ (Nat.le_of_ble_eq_true rfl) rfl (hwidth1) ?_; (focus kernel_rfl))
      | (refine AWL.call (f := 12) rfl rfl rfl ?_ rfl (Nat.le_of_ble_eq_true rfl) rfl (hwidth1) ?_; (focus kernel_rfl))
      | (refine CWr.call (f := 12) rfl ?_ rfl (hwidth1) (fun _ _ h => h) ?_ ?_ ?_; (focus kernel_rfl))
      | (refine AWL.callV (f := 12) rfl rfl rfl rfl ?_ (Nat.le_of_ble_eq_true rfl) rfl (hwidth2) ?_; (focus kernel_rfl))
      | (refine AWL.call (f := 12) rfl rfl rfl ?_ rfl (Nat.le_of_ble_eq_true rfl) rfl (hwidth2) ?_; (focus kernel_rfl))
      | (refine CWr.call (f := 12) rfl ?_ rfl (hwidth2) (fun _ _ h => h) ?_ ?_ ?_; (focus kernel_rfl))
      | (refine AWL.callV (f := 14) rfl rfl rfl rfl ?_ (Nat.le_of_ble_eq_true rfl) rfl (hsame) ?_; (focus kernel_rfl))
      | (refine AWL.call (f := 14) rfl rfl rfl ?_ rfl (Nat.le_of_ble_eq_true rfl) rfl (hsame) ?_; (focus kernel_rfl))
      | (refine CWr.call (f := 14) rfl ?_ rfl (hsame) (fun _ _ h => h) ?_ ?_ ?_; (focus kernel_rfl))
      | (refine AWL.callV (f := 22) rfl rfl rfl rfl ?_ (Nat.le_of_ble_eq_true rfl) rfl (split_ok _ hv1 hv2) ?_; (focus kernel_rfl))
      | (refine AWL.call (f := 22) rfl rfl rfl ?_ rfl (Nat.le_of_ble_eq_true rfl) rfl (split_ok _ hv1 hv2) ?_; (focus kernel_rfl))
      | (refine CWr.call (f := 22) rfl ?_ rfl (split_ok _ hv1 hv2) (fun _ _ h => h) ?_ ?_ ?_; (focus kernel_rfl))
      | fail) <;> (try ((first | show AWL _ _ _ _ _ | show AW _ _ _ _ | show FW _ _ _ _ _ _ _ _ _ _ | show CW _ _ _ _ _ _ _ _ _ _ _ _ | (rintro _ _ ⟨rfl, rfl⟩; (try refine And.intro rfl ?_))); (try (conv => arg -1; simp (disch := omega) only [NSX, Nat.reduceBEq, Nat.reduceAdd, Nat.reduceMul, Int.reduceToNat, Nat.reduceSub, TY, slx, take16, drop16, dz, nums_length, B9, B14])))))
    | ((first | refine AWL.guard2 rfl rfl rfl rfl rfl rfl ?_ ?_ | refine CW.guard2 rfl rfl rfl rfl rfl rfl rfl rfl ?_ ?_) <;> (intro hc; (try simp only [Bool.not_true, Bool.not_false] at hc); first | (cases hc; done) | ((try simp only [hc]); (try simp only [beq_iff_eq, bne_iff_ne, decide_eq_true_eq, decide_eq_false_iff_not, beq_eq_false_iff_ne, bne_eq_false_iff_eq, ne_eq, Bool.not_eq_true, Bool.not_eq_false, Bool.not_eq_eq_eq_not, Bool.not_true, Bool.not_false, Decidable.not_not, Int.not_lt, Int.not_le] at hc); (try (exfalso; omega)); (try (guard_hyp hc : True; clear hc)))) <;> (try (first | (with_reducible show AWL _ _ _ _ (St.put _ _ _)) | (with_reducible show CW _ _ _ _ _ _ _ _ _ _ _ (St.put _ _ _))); (try (conv => arg -1; simp (disch := omega) only [NSX, Nat.reduceBEq, Nat.reduceAdd, Nat.reduceMul, Int.reduceToNat, Nat.reduceSub, TY, slx, take16, drop16, dz, nums_length, B9, B14]))))
    | (refine AWL.guard2 rfl rfl rfl rfl rfl rfl (fun hc => ?_) ?_; (cases hc; done))
    | ((first | ((show AW _ (.region _ _ true) _ _); refine AW.calm false [] [] hmix (by (repeat' (first | exact panOk_end | exact panOk_endM | refine panOk_then ?_ | refine panOk_block ?_ | refine QEq.pan (by assumption) ?_))) ?_ rfl ?_; (focus (as_aux_lemma => kernel_rfl))) | refine AWL.guardU rfl rfl rfl rfl rfl rfl ?_ | refine CW.guardU rfl rfl rfl rfl rfl rfl rfl rfl ?_); (try (conv => arg -1; simp (disch := omega) only [NSX, Nat.reduceBEq, Nat.reduceAdd, Nat.reduceMul, Int.reduceToNat, Nat.reduceSub, TY, slx, take16, drop16, dz, nums_length, B9, B14])))
    | refine CW.tail rfl ?_
    | (refine AW.cond rfl (fun hc => ?_) (fun hc => ?_) <;> first | (cases hc; done) | ((try simp only [beq_iff_eq, bne_iff_ne, decide_eq_true_eq, decide_eq_false_iff_not, beq_eq_false_iff_ne, bne_eq_false_iff_eq, ne_eq, Bool.not_eq_true, Bool.not_eq_false, Bool.not_eq_eq_eq_not, Bool.not_true, Bool.not_false, Decidable.not_not, Int.not_lt, Int.not_le] at hc); (try (exfalso; omega)); (try (guard_hyp hc : True; clear hc))))
    | ((refine EndQ.mk rfl rfl rfl ?_ ?_ ?_; (focus (first | exact Or.inl rfl | exact Or.inr rfl))) <;> (try simp (disch := omega) only [NSX, Nat.reduceBEq, Nat.reduceAdd, Nat.reduceMul, Int.reduceToNat, Nat.reduceSub, TY, slx, take16, drop16, dz, nums_length, B9, B14]))
    | (focus ((first | exact trivial | omega | (refine And.intro (by kernel_rfl) (And.intro ⟨_, (by first | exact nums_ints _ _ | rfl), (by first | exact nums_ints _ _ | rfl)⟩ (And.intro ?_ ?_)) <;> (first | rfl | assumption | (simp only [nums_length]; omega) | omega)) | (refine And.intro ?_ (And.intro ?_ ?_); (focus kernel_rfl); (focus kernel_rfl); (focus kernel_rfl)) | ((show newKs _ _ _ = true); kernel_rfl) | ((show FitV _ _ _ _ _ _); (repeat' (first | exact trivial | exact Or.inr (Or.inl rfl) | exact Or.inl rfl | exact Or.inr (Or.inr rfl) | refine And.intro ?_ ?_)); done) | assumption | ((first | refine ld_nums i3 _ _ ?_ | refine ld_nums i52 _ _ ?_ | refine ld_nums i5 _ _ ?_ | refine at_nums i3 _ _ ?_ | refine at_nums i52 _ _ ?_ | refine at_nums i5 _ _ ?_); first | assumption | omega | (simp only [List.length_append]; omega)) | (show _ ≤ _; omega) | (simp only [List.length_take, List.length_drop, List.length_append, List.length_cons, List.length_nil]; omega) | ((repeat' (first | exact trivial | exact rfl | exact Nat.le_of_ble_eq_true rfl | refine And.intro ?_ ?_ | fail)); done) | ((try simp (disch := omega) only [NSX, Nat.reduceBEq, Nat.reduceAdd, Nat.reduceMul, Int.reduceToNat, Nat.reduceSub, TY, slx, take16, drop16, dz, nums_length, B9, B14]); (repeat' (first | exact trivial | exact rfl | exact ⟨_, _, rfl⟩ | exact ⟨_, rfl⟩ | exact Nat.le_of_ble_eq_true rfl | exact Nat.zero_lt_succ _ | omega | (simp only [nums_length, toB_len] at *; omega) | refine And.intro ?_ ?_ | fail)); done)); done))
    | fail)
  all_goals first | exact ⟨trivial, trivial⟩ | exact ⟨rfl, trivial⟩ | exact ⟨rfl, rfl⟩ | exact ⟨trivial, rfl⟩ | (exfalso; omega) | trace_state
set_option maxRecDepth 8000 in
set_option maxHeartbeats 12800000 in
theorem splitBack_yes (ts : List Int) (vs : List (List Int)) (hv : vecs vs) (hlen : ts.length ≤ 1048576) (hok : okTs ts = true) (hl : ts.length = vs.length) :
    AC Try.prog 8 [.view ts.length 1 (nums .i64 ts), .view vs.length 16 (vecC vs)] (fun r m => r = .bool true ∧ m = []) := by
  have hput1 := put_ok ts vs hv (by omega)
  rw [put_yes ts vs hok hl] at hput1
  have hXl := putL_len ts vs hok hl
  have hIw := image_width hok
  have hu := putL_u64 ts vs hv
  have hpi := put_image ts vs hok hl hv
  have hdr := fun (k : Nat) (hk : k < ts.length) => putL_drop ts vs hok hl hk
  have hw2 := widthL_le ts
  have hIo := okTs_image ts
  have hIi := image_image ts
  have hIL := widthL_image ts
  have htypes1 := types_ok ts (by omega)
  have hoffs := off_ok ts (by omega)
  have hwidth1 := width_ok ts (by omega)
  have hAl := offsTo_len ts ts.length
  have hAa := fun (k : Nat) (hk : k < ts.length) => offs_at ts hk
  generalize offsTo ts ts.length = A at hoffs hAl hAa
  have hBl := takeL_len (image ts) (putL ts vs)
  have hBv := takeL_vecs (image ts) (putL ts vs)
  have hTk : takeR (image ts) (putL ts vs) [] = (takeL (image ts) (putL ts vs), 0) := by
    rw [takeR_eq, if_pos ⟨hIo, by rw [hIL, hIw, hXl]⟩]; rfl
  generalize image ts = I at hIw hIo hIi hIL htypes1 hwidth1 hpi hBl hBv hTk
  generalize putL ts vs = X at hput1 hXl hu hpi hdr hBl hBv hTk
  generalize takeL I X = B at hpi hBl hBv hTk
  have hIX : I.length = X.length := by omega
  have htake := take_ok I X hu (by omega)
  rw [hTk] at htake
  have hput2 := put_ok I B hBv (by omega)
  rw [put_yes I B hIo hBl.symm, hpi] at hput2
  have htypes2 := types_ok I (by omega)
  rw [hIi] at htypes2
  have hwidth2 := width_ok I (by omega)
  rw [hIi] at hwidth2
  have hsame := same_ok I I (by omega)
  simp only [hIX, hBl, decide_true] at htypes1 hwidth1 htake hput2 htypes2 hwidth2 hsame
  have hXt : List.take X.length X = X := List.take_length
  have hIt : List.take X.length I = I := List.take_of_length_le (by omega)
  have hBc : (vecC B).length = X.length * 16 := by rw [vecC_len hBv, hBl, hIX]
  have hBt : List.take (X.length * 16) (vecC B) = vecC B := List.take_of_length_le (by omega)
  have hv1 : True := trivial
  have hv2 : True := trivial
  refine AC.enter Try.func8 rfl (Nat.le_of_ble_eq_true rfl) ?_
  simp only [Try.f8]
  have hchk : True := by simp only [TY, slx, take16, drop16, dz, nums_length, B9, B14, eq_self, decide_true, bne_self_eq_false, Bool.not_true]
  repeat' (first
    | (refine AWL.opN (sl := SL) rfl rfl rfl trivial ?_; (try (conv => arg -1; simp (disch := omega) only [NSX, Nat.reduceBEq, Nat.reduceAdd, Nat.reduceMul, Int.reduceToNat, Nat.reduceSub, TY, slx, take16, drop16, dz, nums_length, B9, B14, eq_self, decide_true, bne_self_eq_false, Bool.not_true])))
    | (refine AW.seqQ ?_; intro Qn hQn)
    | (refine AW.blockQ ?_; intro Qn hQn)
    | refine AW.region ?_
    | ((first | refine AW.skip ?_ | refine AW.ret ?_ | refine AW.exit ?_ | refine AWL.nil ?_ | refine CW.nil ?_); (repeat (first | refine QEq.mp (by assumption) ?_ | simp only [thenQ, Go.Abs.blockQ, ↓reduceIte, Nat.reduceEqDiff])))
    | refine FW.nil ?_
    | refine FW.pass rfl rfl ?_
    | refine FW.go rfl ?_
    | refine CW.skip rfl rfl ?_
    | refine CW.step rfl rfl rfl rfl rfl ?_
    | ((first
      | (refine AWL.boxF (t := 57) rfl rfl rfl rfl rfl ?_)
      | (refine AWL.allocF (t := 57) rfl rfl rfl rfl rfl rfl ?_)
      | (refine CWr.allocF (t := 57) rfl rfl rfl ?_ ?_)
      | (refine AWL.op (sl := SL) rfl rfl ?_ ?_)
      | (refine FW.float rfl rfl rfl rfl rfl ?_)
      | (refine CWr.op rfl ?_ ?_ ?_)
      | (refine CWr.assign rfl ?_ ?_)
      | (refine CWr.alloc rfl rfl rfl rfl ?_)
      | (refine CWr.build rfl rfl rfl rfl ?_ rfl rfl rfl ?_)
      | ((show AWL _ _ ({ dst := _, op := _, type := _, pos := _, after := _, guard := none } :: _) _ _); refine AWL.frzA rfl rfl ?_)
      | (refine AWL.callV (f := 9) rfl rfl rfl rfl ?_ (Nat.le_of_ble_eq_true rfl) rfl (awake_ok) ?_; (focus kernel_rfl))
      | (refine AWL.call (f := 9) rfl rfl rfl ?_ rfl (Nat.le_of_ble_eq_true rfl) rfl (awake_ok) ?_; (focus kernel_rfl))
      | (refine CWr.call (f := 9) rfl ?_ rfl (awake_ok) (fun _ _ h => h) ?_ ?_ ?_; (focus kernel_rfl))
      | (refine AWL.callV (f := 21) rfl rfl rfl rfl ?_ (Nat.le_of_ble_eq_true rfl) rfl (hput1) ?_; (focus kernel_rfl))
      | (refine AWL.call (f := 21) rfl rfl rfl ?_ rfl (Nat.le_of_ble_eq_true rfl) rfl (hput1) ?_; (focus kernel_rfl))
      | (refine CWr.call (f := 21) rfl ?_ rfl (hput1) (fun _ _ h => h) ?_ ?_ ?_; (focus kernel_rfl))
      | (refine AWL.callV (f := 21) rfl rfl rfl rfl ?_ (Nat.le_of_ble_eq_true rfl) rfl (hput2) ?_; (focus kernel_rfl))
      | (refine AWL.call (f := 21) rfl rfl rfl ?_ rfl (Nat.le_of_ble_eq_true rfl) rfl (hput2) ?_; (focus kernel_rfl))
      | (refine CWr.call (f := 21) rfl ?_ rfl (hput2) (fun _ _ h => h) ?_ ?_ ?_; (focus kernel_rfl))
      | (refine AWL.callV (f := 23) rfl rfl rfl rfl ?_ (Nat.le_of_ble_eq_true rfl) rfl (htake) ?_; (focus kernel_rfl))
      | (refine AWL.call (f := 23) rfl rfl rfl ?_ rfl (Nat.le_of_ble_eq_true rfl) rfl (htake) ?_; (focus kernel_rfl))
      | (refine CWr.call (f := 23) rfl ?_ rfl (htake) (fun _ _ h => h) ?_ ?_ ?_; (focus kernel_rfl))
      | (refine AWL.callV (f := 15) rfl rfl rfl rfl ?_ (Nat.le_of_ble_eq_true rfl) rfl (htypes1) ?_; (focus kernel_rfl))
      | (refine AWL.call (f := 15) rfl rfl rfl ?_ rfl (Nat.le_of_ble_eq_true rfl) rfl (htypes1) ?_; (focus kernel_rfl))
      | (refine CWr.call (f := 15) rfl ?_ rfl (htypes1) (fun _ _ h => h) ?_ ?_ ?_; (focus kernel_rfl))
      | (refine AWL.callV (f := 15) rfl rfl rfl rfl ?_ (Nat.le_of_ble_eq_true rfl) rfl (htypes2) ?_; (focus kernel_rfl))
      | (refine AWL.call (f := 15) rfl rfl rfl ?_ rfl (Nat.le_of_ble_eq_true rfl) rfl (htypes2) ?_; (focus kernel_rfl))
      | (refine CWr.call (f := 15) rfl ?_ rfl (htypes2) (fun _ _ h => h) ?_ ?_ ?_; (focus kernel_rfl))
      | (refine AWL.callV (f := 16) rfl rfl rfl rfl ?_ (Nat.le_of_ble_eq_true rfl) rfl (hoffs) ?_; (focus kernel_rfl))
      | (refine AWL.call (f := 16) rfl rfl rfl ?_ rfl (Nat.le_of_ble_eq_true rfl) rfl (hoffs) ?_; (focus kernel_rfl))
      | (refine CWr.call (f := 16) rfl ?_ rfl (hoffs) (fun _ _ h => h) ?_ ?_ ?_; (focus kernel_rfl))
      | (refine AWL.callV (f := 12) rfl rfl rfl rfl ?_ (Nat.le_of_ble_eq_true rfl) rfl (hwidth1) ?_; (focus kernel_rfl))
      | (refine AWL.call (f := 12) rfl rfl rfl ?_ rfl (Nat.le_of_ble_eq_true rfl) rfl (hwidth1) ?_; (focus kernel_rfl))
      | (refine CWr.call (f := 12) rfl ?_ rfl (hwidth1) (fun _ _ h => h) ?_ ?_ ?_; (focus kernel_rfl))
      | (refine AWL.callV (f := 12) rfl rfl rfl rfl ?_ (Nat.le_of_ble_eq_true rfl) rfl (hwidth2) ?_; (focus kernel_rfl))
      | (refine AWL.call (f := 12) rfl rfl rfl ?_ rfl (Nat.le_of_ble_eq_true rfl) rfl (hwidth2) ?_; (focus kernel_rfl))
      | (refine CWr.call (f := 12) rfl ?_ rfl (hwidth2) (fun _ _ h => h) ?_ ?_ ?_; (focus kernel_rfl))
      | (refine AWL.callV (f := 14) rfl rfl rfl rfl ?_ (Nat.le_of_ble_eq_true rfl) rfl (hsame) ?_; (focus kernel_rfl))
      | (refine AWL.call (f := 14) rfl rfl rfl ?_ rfl (Nat.le_of_ble_eq_true rfl) rfl (hsame) ?_; (focus kernel_rfl))
      | (refine CWr.call (f := 14) rfl ?_ rfl (hsame) (fun _ _ h => h) ?_ ?_ ?_; (focus kernel_rfl))
      | (refine AWL.callV (f := 22) rfl rfl rfl rfl ?_ (Nat.le_of_ble_eq_true rfl) rfl (split_ok _ hv1 hv2) ?_; (focus kernel_rfl))
      | (refine AWL.call (f := 22) rfl rfl rfl ?_ rfl (Nat.le_of_ble_eq_true rfl) rfl (split_ok _ hv1 hv2) ?_; (focus kernel_rfl))
      | (refine CWr.call (f := 22) rfl ?_ rfl (split_ok _ hv1 hv2) (fun _ _ h => h) ?_ ?_ ?_; (focus kernel_rfl))
      | fail) <;> (try ((first | show AWL _ _ _ _ _ | show AW _ _ _ _ | show FW _ _ _ _ _ _ _ _ _ _ | show CW _ _ _ _ _ _ _ _ _ _ _ _ | (rintro _ _ ⟨rfl, rfl⟩; (try refine And.intro rfl ?_))); (try (conv => arg -1; simp (disch := omega) only [NSX, Nat.reduceBEq, Nat.reduceAdd, Nat.reduceMul, Int.reduceToNat, Nat.reduceSub, TY, slx, take16, drop16, dz, nums_length, B9, B14, eq_self, decide_true, bne_self_eq_false, Bool.not_true])))))
    | ((first | refine AWL.guard2 rfl rfl rfl rfl rfl rfl ?_ ?_ | refine CW.guard2 rfl rfl rfl rfl rfl rfl rfl rfl ?_ ?_) <;> (intro hc; (try simp only [Bool.not_true, Bool.not_false] at hc); first | (cases hc; done) | ((try simp only [hc]); (try simp only [beq_iff_eq, bne_iff_ne, decide_eq_true_eq, decide_eq_false_iff_not, beq_eq_false_iff_ne, bne_eq_false_iff_eq, ne_eq, Bool.not_eq_true, Bool.not_eq_false, Bool.not_eq_eq_eq_not, Bool.not_true, Bool.not_false, Decidable.not_not, Int.not_lt, Int.not_le] at hc); (try (exfalso; omega)); (try (guard_hyp hc : True; clear hc)))) <;> (try (first | (with_reducible show AWL _ _ _ _ (St.put _ _ _)) | (with_reducible show CW _ _ _ _ _ _ _ _ _ _ _ (St.put _ _ _))); (try (conv => arg -1; simp (disch := omega) only [NSX, Nat.reduceBEq, Nat.reduceAdd, Nat.reduceMul, Int.reduceToNat, Nat.reduceSub, TY, slx, take16, drop16, dz, nums_length, B9, B14, eq_self, decide_true, bne_self_eq_false, Bool.not_true]))))
    | (refine AWL.guard2 rfl rfl rfl rfl rfl rfl (fun hc => ?_) ?_; (cases hc; done))
    | ((first | ((show AW _ (.region _ _ true) _ _); refine AW.calm false [] [] hmix (by (repeat' (first | exact panOk_end | exact panOk_endM | refine panOk_then ?_ | refine panOk_block ?_ | refine QEq.pan (by assumption) ?_))) ?_ rfl ?_; (focus (as_aux_lemma => kernel_rfl))) | refine AWL.guardU rfl rfl rfl rfl rfl rfl ?_ | refine CW.guardU rfl rfl rfl rfl rfl rfl rfl rfl ?_); (try (conv => arg -1; simp (disch := omega) only [NSX, Nat.reduceBEq, Nat.reduceAdd, Nat.reduceMul, Int.reduceToNat, Nat.reduceSub, TY, slx, take16, drop16, dz, nums_length, B9, B14, eq_self, decide_true, bne_self_eq_false, Bool.not_true])))
    | refine CW.tail rfl ?_
    | (refine AW.cond rfl (fun hc => ?_) (fun hc => ?_) <;> first | (cases hc; done) | ((try simp only [beq_iff_eq, bne_iff_ne, decide_eq_true_eq, decide_eq_false_iff_not, beq_eq_false_iff_ne, bne_eq_false_iff_eq, ne_eq, Bool.not_eq_true, Bool.not_eq_false, Bool.not_eq_eq_eq_not, Bool.not_true, Bool.not_false, Decidable.not_not, Int.not_lt, Int.not_le] at hc); (try (exfalso; omega)); (try (guard_hyp hc : True; clear hc))))
    | ((refine EndQ.mk rfl rfl rfl ?_ ?_ ?_; (focus (first | exact Or.inl rfl | exact Or.inr rfl))) <;> (try simp (disch := omega) only [NSX, Nat.reduceBEq, Nat.reduceAdd, Nat.reduceMul, Int.reduceToNat, Nat.reduceSub, TY, slx, take16, drop16, dz, nums_length, B9, B14, eq_self, decide_true, bne_self_eq_false, Bool.not_true]))
    | (focus ((first | exact trivial | omega | (refine And.intro (by kernel_rfl) (And.intro ⟨_, (by first | exact nums_ints _ _ | rfl), (by first | exact nums_ints _ _ | rfl)⟩ (And.intro ?_ ?_)) <;> (first | rfl | assumption | (simp only [nums_length]; omega) | omega)) | (refine And.intro ?_ (And.intro ?_ ?_); (focus kernel_rfl); (focus kernel_rfl); (focus kernel_rfl)) | ((show newKs _ _ _ = true); kernel_rfl) | ((show FitV _ _ _ _ _ _); (repeat' (first | exact trivial | exact Or.inr (Or.inl rfl) | exact Or.inl rfl | exact Or.inr (Or.inr rfl) | refine And.intro ?_ ?_)); done) | assumption | ((first | refine ld_nums i3 _ _ ?_ | refine ld_nums i52 _ _ ?_ | refine ld_nums i5 _ _ ?_ | refine at_nums i3 _ _ ?_ | refine at_nums i52 _ _ ?_ | refine at_nums i5 _ _ ?_); first | assumption | omega | (simp only [List.length_append]; omega)) | (show _ ≤ _; omega) | (simp only [List.length_take, List.length_drop, List.length_append, List.length_cons, List.length_nil]; omega) | ((repeat' (first | exact trivial | exact rfl | exact Nat.le_of_ble_eq_true rfl | refine And.intro ?_ ?_ | fail)); done) | ((try simp (disch := omega) only [NSX, Nat.reduceBEq, Nat.reduceAdd, Nat.reduceMul, Int.reduceToNat, Nat.reduceSub, TY, slx, take16, drop16, dz, nums_length, B9, B14, eq_self, decide_true, bne_self_eq_false, Bool.not_true]); (repeat' (first | exact trivial | exact rfl | exact ⟨_, _, rfl⟩ | exact ⟨_, rfl⟩ | exact Nat.le_of_ble_eq_true rfl | exact Nat.zero_lt_succ _ | omega | (simp only [nums_length, toB_len] at *; omega) | refine And.intro ?_ ?_ | fail)); done)); done))
    | fail)
  refine AW.loop [0, 1, 4, 5, 7, 8, 9] [5, 7, 8] (fun m st => ∃ k : Nat, st = B9 ts vs X I A k ∧ k ≤ ts.length ∧ m = ts.length - k) ?_ ?_
  · exact ⟨_, 0, rfl, Nat.zero_le _, rfl⟩
  rintro m st ⟨k, rfl, hk, rfl⟩
  have e5 : IntKind.i64.wrap ((k : Int) + 1) = ((k + 1 : Nat) : Int) := wrap64_id _ (by omega) (by omega)
  by_cases hkn : k < ts.length
  · have hva := vec_at hv (k := k) (by omega)
    have hv1 := hva.1
    have hv2 := hva.2
    have hld := vec_load hv (k := k) (by omega)
    have hroom := vec_room hv (k := k) (by omega)
    have hat := hAa k hkn
    have hd := hdr k hkn
    have hn0 : needP (ts.getD k 0) ≠ 0 := fun h0 => by rw [okTs_at hkn h0] at hok; cases hok
    have hlo := lo_bound hv2 hv1
    have hand := and32 hlo.1 hlo.2
    generalize (image (ts.take k)).length = w at hat hd
    have g0 := getD_drop X w 0
    have g1 := getD_drop X w 1
    have hdl := len_drop hd
    rw [hd] at g0 g1
    rcases need_cases (ts.getD k 0) with h1 | h1 | h1 | ⟨h0, h1, h2, h3⟩
    · rw [h1] at g0 hdl
      simp only [put1, ↓reduceIte, List.length_cons, List.length_nil] at hdl
      have hwl : w < X.length := by
        rcases hdl with h | h
        · omega
        · cases h
      have g0 : X.getD w 0 = lo (vs.getD k []) % 4294967296 := g0
      have hchk : True := by simp only [TY, slx, take16, drop16, dz, nums_length, B9, B14, e5, hld, hv1, h1, hat, g0, hand, hIX, eq_self, decide_true, bne_self_eq_false, Bool.not_true]
      repeat' (first
        | (refine AWL.opN (sl := SL) rfl rfl rfl trivial ?_; (try (conv => arg -1; simp (disch := omega) only [NSX, Nat.reduceBEq, Nat.reduceAdd, Nat.reduceMul, Int.reduceToNat, Nat.reduceSub, TY, slx, take16, drop16, dz, nums_length, B9, B14, e5, hld, hv1, h1, hat, g0, hand, hIX, eq_self, decide_true, bne_self_eq_false, Bool.not_true])))
        | (refine AW.seqQ ?_; intro Qn hQn)
        | (refine AW.blockQ ?_; intro Qn hQn)
        | refine AW.region ?_
        | ((first | refine AW.skip ?_ | refine AW.ret ?_ | refine AW.exit ?_ | refine AWL.nil ?_ | refine CW.nil ?_); (repeat (first | refine QEq.mp (by assumption) ?_ | simp only [thenQ, Go.Abs.blockQ, ↓reduceIte, Nat.reduceEqDiff])))
        | refine FW.nil ?_
        | refine FW.pass rfl rfl ?_
        | refine FW.go rfl ?_
        | refine CW.skip rfl rfl ?_
        | refine CW.step rfl rfl rfl rfl rfl ?_
        | ((first
          | (refine AWL.boxF (t := 57) rfl rfl rfl rfl rfl ?_)
          | (refine AWL.allocF (t := 57) rfl rfl rfl rfl rfl rfl ?_)
          | (refine CWr.allocF (t := 57) rfl rfl rfl ?_ ?_)
          | (refine AWL.op (sl := SL) rfl rfl ?_ ?_)
          | (refine FW.float rfl rfl rfl rfl rfl ?_)
          | (refine CWr.op rfl ?_ ?_ ?_)
          | (refine CWr.assign rfl ?_ ?_)
          | (refine CWr.alloc rfl rfl rfl rfl ?_)
          | (refine CWr.build rfl rfl rfl rfl ?_ rfl rfl rfl ?_)
          | ((show AWL _ _ ({ dst := _, op := _, type := _, pos := _, after := _, guard := none } :: _) _ _); refine AWL.frzA rfl rfl ?_)
          | (refine AWL.callV (f := 9) rfl rfl rfl rfl ?_ (Nat.le_of_ble_eq_true rfl) rfl (awake_ok) ?_; (focus kernel_rfl))
          | (refine AWL.call (f := 9) rfl rfl rfl ?_ rfl (Nat.le_of_ble_eq_true rfl) rfl (awake_ok) ?_; (focus kernel_rfl))
          | (refine CWr.call (f := 9) rfl ?_ rfl (awake_ok) (fun _ _ h => h) ?_ ?_ ?_; (focus kernel_rfl))
          | (refine AWL.callV (f := 21) rfl rfl rfl rfl ?_ (Nat.le_of_ble_eq_true rfl) rfl (hput1) ?_; (focus kernel_rfl))
          | (refine AWL.call (f := 21) rfl rfl rfl ?_ rfl (Nat.le_of_ble_eq_true rfl) rfl (hput1) ?_; (focus kernel_rfl))
          | (refine CWr.call (f := 21) rfl ?_ rfl (hput1) (fun _ _ h => h) ?_ ?_ ?_; (focus kernel_rfl))
          | (refine AWL.callV (f := 21) rfl rfl rfl rfl ?_ (Nat.le_of_ble_eq_true rfl) rfl (hput2) ?_; (focus kernel_rfl))
          | (refine AWL.call (f := 21) rfl rfl rfl ?_ rfl (Nat.le_of_ble_eq_true rfl) rfl (hput2) ?_; (focus kernel_rfl))
          | (refine CWr.call (f := 21) rfl ?_ rfl (hput2) (fun _ _ h => h) ?_ ?_ ?_; (focus kernel_rfl))
          | (refine AWL.callV (f := 23) rfl rfl rfl rfl ?_ (Nat.le_of_ble_eq_true rfl) rfl (htake) ?_; (focus kernel_rfl))
          | (refine AWL.call (f := 23) rfl rfl rfl ?_ rfl (Nat.le_of_ble_eq_true rfl) rfl (htake) ?_; (focus kernel_rfl))
          | (refine CWr.call (f := 23) rfl ?_ rfl (htake) (fun _ _ h => h) ?_ ?_ ?_; (focus kernel_rfl))
          | (refine AWL.callV (f := 15) rfl rfl rfl rfl ?_ (Nat.le_of_ble_eq_true rfl) rfl (htypes1) ?_; (focus kernel_rfl))
          | (refine AWL.call (f := 15) rfl rfl rfl ?_ rfl (Nat.le_of_ble_eq_true rfl) rfl (htypes1) ?_; (focus kernel_rfl))
          | (refine CWr.call (f := 15) rfl ?_ rfl (htypes1) (fun _ _ h => h) ?_ ?_ ?_; (focus kernel_rfl))
          | (refine AWL.callV (f := 15) rfl rfl rfl rfl ?_ (Nat.le_of_ble_eq_true rfl) rfl (htypes2) ?_; (focus kernel_rfl))
          | (refine AWL.call (f := 15) rfl rfl rfl ?_ rfl (Nat.le_of_ble_eq_true rfl) rfl (htypes2) ?_; (focus kernel_rfl))
          | (refine CWr.call (f := 15) rfl ?_ rfl (htypes2) (fun _ _ h => h) ?_ ?_ ?_; (focus kernel_rfl))
          | (refine AWL.callV (f := 16) rfl rfl rfl rfl ?_ (Nat.le_of_ble_eq_true rfl) rfl (hoffs) ?_; (focus kernel_rfl))
          | (refine AWL.call (f := 16) rfl rfl rfl ?_ rfl (Nat.le_of_ble_eq_true rfl) rfl (hoffs) ?_; (focus kernel_rfl))
          | (refine CWr.call (f := 16) rfl ?_ rfl (hoffs) (fun _ _ h => h) ?_ ?_ ?_; (focus kernel_rfl))
          | (refine AWL.callV (f := 12) rfl rfl rfl rfl ?_ (Nat.le_of_ble_eq_true rfl) rfl (hwidth1) ?_; (focus kernel_rfl))
          | (refine AWL.call (f := 12) rfl rfl rfl ?_ rfl (Nat.le_of_ble_eq_true rfl) rfl (hwidth1) ?_; (focus kernel_rfl))
          | (refine CWr.call (f := 12) rfl ?_ rfl (hwidth1) (fun _ _ h => h) ?_ ?_ ?_; (focus kernel_rfl))
          | (refine AWL.callV (f := 12) rfl rfl rfl rfl ?_ (Nat.le_of_ble_eq_true rfl) rfl (hwidth2) ?_; (focus kernel_rfl))
          | (refine AWL.call (f := 12) rfl rfl rfl ?_ rfl (Nat.le_of_ble_eq_true rfl) rfl (hwidth2) ?_; (focus kernel_rfl))
          | (refine CWr.call (f := 12) rfl ?_ rfl (hwidth2) (fun _ _ h => h) ?_ ?_ ?_; (focus kernel_rfl))
          | (refine AWL.callV (f := 14) rfl rfl rfl rfl ?_ (Nat.le_of_ble_eq_true rfl) rfl (hsame) ?_; (focus kernel_rfl))
          | (refine AWL.call (f := 14) rfl rfl rfl ?_ rfl (Nat.le_of_ble_eq_true rfl) rfl (hsame) ?_; (focus kernel_rfl))
          | (refine CWr.call (f := 14) rfl ?_ rfl (hsame) (fun _ _ h => h) ?_ ?_ ?_; (focus kernel_rfl))
          | (refine AWL.callV (f := 22) rfl rfl rfl rfl ?_ (Nat.le_of_ble_eq_true rfl) rfl (split_ok _ hv1 hv2) ?_; (focus kernel_rfl))
          | (refine AWL.call (f := 22) rfl rfl rfl ?_ rfl (Nat.le_of_ble_eq_true rfl) rfl (split_ok _ hv1 hv2) ?_; (focus kernel_rfl))
          | (refine CWr.call (f := 22) rfl ?_ rfl (split_ok _ hv1 hv2) (fun _ _ h => h) ?_ ?_ ?_; (focus kernel_rfl))
          | fail) <;> (try ((first | show AWL _ _ _ _ _ | show AW _ _ _ _ | show FW _ _ _ _ _ _ _ _ _ _ | show CW _ _ _ _ _ _ _ _ _ _ _ _ | (rintro _ _ ⟨rfl, rfl⟩; (try refine And.intro rfl ?_))); (try (conv => arg -1; simp (disch := omega) only [NSX, Nat.reduceBEq, Nat.reduceAdd, Nat.reduceMul, Int.reduceToNat, Nat.reduceSub, TY, slx, take16, drop16, dz, nums_length, B9, B14, e5, hld, hv1, h1, hat, g0, hand, hIX, eq_self, decide_true, bne_self_eq_false, Bool.not_true])))))
        | ((first | refine AWL.guard2 rfl rfl rfl rfl rfl rfl ?_ ?_ | refine CW.guard2 rfl rfl rfl rfl rfl rfl rfl rfl ?_ ?_) <;> (intro hc; (try simp only [Bool.not_true, Bool.not_false] at hc); first | (cases hc; done) | ((try simp only [hc]); (try simp only [beq_iff_eq, bne_iff_ne, decide_eq_true_eq, decide_eq_false_iff_not, beq_eq_false_iff_ne, bne_eq_false_iff_eq, ne_eq, Bool.not_eq_true, Bool.not_eq_false, Bool.not_eq_eq_eq_not, Bool.not_true, Bool.not_false, Decidable.not_not, Int.not_lt, Int.not_le] at hc); (try (exfalso; omega)); (try (guard_hyp hc : True; clear hc)))) <;> (try (first | (with_reducible show AWL _ _ _ _ (St.put _ _ _)) | (with_reducible show CW _ _ _ _ _ _ _ _ _ _ _ (St.put _ _ _))); (try (conv => arg -1; simp (disch := omega) only [NSX, Nat.reduceBEq, Nat.reduceAdd, Nat.reduceMul, Int.reduceToNat, Nat.reduceSub, TY, slx, take16, drop16, dz, nums_length, B9, B14, e5, hld, hv1, h1, hat, g0, hand, hIX, eq_self, decide_true, bne_self_eq_false, Bool.not_true]))))
        | (refine AWL.guard2 rfl rfl rfl rfl rfl rfl (fun hc => ?_) ?_; (cases hc; done))
        | ((first | ((show AW _ (.region _ _ true) _ _); refine AW.calm false [] [] hmix (by (repeat' (first | exact panOk_end | exact panOk_endM | refine panOk_then ?_ | refine panOk_block ?_ | refine QEq.pan (by assumption) ?_))) ?_ rfl ?_; (focus (as_aux_lemma => kernel_rfl))) | refine AWL.guardU rfl rfl rfl rfl rfl rfl ?_ | refine CW.guardU rfl rfl rfl rfl rfl rfl rfl rfl ?_); (try (conv => arg -1; simp (disch := omega) only [NSX, Nat.reduceBEq, Nat.reduceAdd, Nat.reduceMul, Int.reduceToNat, Nat.reduceSub, TY, slx, take16, drop16, dz, nums_length, B9, B14, e5, hld, hv1, h1, hat, g0, hand, hIX, eq_self, decide_true, bne_self_eq_false, Bool.not_true])))
        | refine CW.tail rfl ?_
        | (refine AW.cond rfl (fun hc => ?_) (fun hc => ?_) <;> first | (cases hc; done) | ((try simp only [beq_iff_eq, bne_iff_ne, decide_eq_true_eq, decide_eq_false_iff_not, beq_eq_false_iff_ne, bne_eq_false_iff_eq, ne_eq, Bool.not_eq_true, Bool.not_eq_false, Bool.not_eq_eq_eq_not, Bool.not_true, Bool.not_false, Decidable.not_not, Int.not_lt, Int.not_le] at hc); (try (exfalso; omega)); (try (guard_hyp hc : True; clear hc))))
        | ((refine EndQ.mk rfl rfl rfl ?_ ?_ ?_; (focus (first | exact Or.inl rfl | exact Or.inr rfl))) <;> (try simp (disch := omega) only [NSX, Nat.reduceBEq, Nat.reduceAdd, Nat.reduceMul, Int.reduceToNat, Nat.reduceSub, TY, slx, take16, drop16, dz, nums_length, B9, B14, e5, hld, hv1, h1, hat, g0, hand, hIX, eq_self, decide_true, bne_self_eq_false, Bool.not_true]))
        | (focus ((first | exact trivial | omega | (refine And.intro (by kernel_rfl) (And.intro ⟨_, (by first | exact nums_ints _ _ | rfl), (by first | exact nums_ints _ _ | rfl)⟩ (And.intro ?_ ?_)) <;> (first | rfl | assumption | (simp only [nums_length]; omega) | omega)) | (refine And.intro ?_ (And.intro ?_ ?_); (focus kernel_rfl); (focus kernel_rfl); (focus kernel_rfl)) | ((show newKs _ _ _ = true); kernel_rfl) | ((show FitV _ _ _ _ _ _); (repeat' (first | exact trivial | exact Or.inr (Or.inl rfl) | exact Or.inl rfl | exact Or.inr (Or.inr rfl) | refine And.intro ?_ ?_)); done) | assumption | ((first | refine ld_nums i3 _ _ ?_ | refine ld_nums i52 _ _ ?_ | refine ld_nums i5 _ _ ?_ | refine at_nums i3 _ _ ?_ | refine at_nums i52 _ _ ?_ | refine at_nums i5 _ _ ?_); first | assumption | omega | (simp only [List.length_append]; omega)) | (show _ ≤ _; omega) | (simp only [List.length_take, List.length_drop, List.length_append, List.length_cons, List.length_nil]; omega) | ((repeat' (first | exact trivial | exact rfl | exact Nat.le_of_ble_eq_true rfl | refine And.intro ?_ ?_ | fail)); done) | ((try simp (disch := omega) only [NSX, Nat.reduceBEq, Nat.reduceAdd, Nat.reduceMul, Int.reduceToNat, Nat.reduceSub, TY, slx, take16, drop16, dz, nums_length, B9, B14, e5, hld, hv1, h1, hat, g0, hand, hIX, eq_self, decide_true, bne_self_eq_false, Bool.not_true]); (repeat' (first | exact trivial | exact rfl | exact ⟨_, _, rfl⟩ | exact ⟨_, rfl⟩ | exact Nat.le_of_ble_eq_true rfl | exact Nat.zero_lt_succ _ | omega | (simp only [nums_length, toB_len] at *; omega) | refine And.intro ?_ ?_ | fail)); done)); done))
        | fail)
      all_goals try simp (disch := omega) only [NSX, Nat.reduceBEq, Nat.reduceAdd, Nat.reduceMul, Int.reduceToNat, Nat.reduceSub, TY, slx, take16, drop16, dz, nums_length, B9, B14, e5]
      all_goals first
        | exact ⟨ts.length - (k + 1), by omega, k + 1, rfl, by omega, rfl⟩
        | (exfalso; omega) | trace_state
    · rw [h1] at g0 hdl
      simp only [put1, Int.reduceEq, ↓reduceIte, List.length_cons, List.length_nil] at hdl
      have hwl : w < X.length := by
        rcases hdl with h | h
        · omega
        · cases h
      have g0 : X.getD w 0 = lo (vs.getD k []) := g0
      have hchk : True := by simp only [TY, slx, take16, drop16, dz, nums_length, B9, B14, e5, hld, hv1, h1, hat, g0, hIX, eq_self, decide_true, bne_self_eq_false, Bool.not_true]
      repeat' (first
        | (refine AWL.opN (sl := SL) rfl rfl rfl trivial ?_; (try (conv => arg -1; simp (disch := omega) only [NSX, Nat.reduceBEq, Nat.reduceAdd, Nat.reduceMul, Int.reduceToNat, Nat.reduceSub, TY, slx, take16, drop16, dz, nums_length, B9, B14, e5, hld, hv1, h1, hat, g0, hIX, eq_self, decide_true, bne_self_eq_false, Bool.not_true])))
        | (refine AW.seqQ ?_; intro Qn hQn)
        | (refine AW.blockQ ?_; intro Qn hQn)
        | refine AW.region ?_
        | ((first | refine AW.skip ?_ | refine AW.ret ?_ | refine AW.exit ?_ | refine AWL.nil ?_ | refine CW.nil ?_); (repeat (first | refine QEq.mp (by assumption) ?_ | simp only [thenQ, Go.Abs.blockQ, ↓reduceIte, Nat.reduceEqDiff])))
        | refine FW.nil ?_
        | refine FW.pass rfl rfl ?_
        | refine FW.go rfl ?_
        | refine CW.skip rfl rfl ?_
        | refine CW.step rfl rfl rfl rfl rfl ?_
        | ((first
          | (refine AWL.boxF (t := 57) rfl rfl rfl rfl rfl ?_)
          | (refine AWL.allocF (t := 57) rfl rfl rfl rfl rfl rfl ?_)
          | (refine CWr.allocF (t := 57) rfl rfl rfl ?_ ?_)
          | (refine AWL.op (sl := SL) rfl rfl ?_ ?_)
          | (refine FW.float rfl rfl rfl rfl rfl ?_)
          | (refine CWr.op rfl ?_ ?_ ?_)
          | (refine CWr.assign rfl ?_ ?_)
          | (refine CWr.alloc rfl rfl rfl rfl ?_)
          | (refine CWr.build rfl rfl rfl rfl ?_ rfl rfl rfl ?_)
          | ((show AWL _ _ ({ dst := _, op := _, type := _, pos := _, after := _, guard := none } :: _) _ _); refine AWL.frzA rfl rfl ?_)
          | (refine AWL.callV (f := 9) rfl rfl rfl rfl ?_ (Nat.le_of_ble_eq_true rfl) rfl (awake_ok) ?_; (focus kernel_rfl))
          | (refine AWL.call (f := 9) rfl rfl rfl ?_ rfl (Nat.le_of_ble_eq_true rfl) rfl (awake_ok) ?_; (focus kernel_rfl))
          | (refine CWr.call (f := 9) rfl ?_ rfl (awake_ok) (fun _ _ h => h) ?_ ?_ ?_; (focus kernel_rfl))
          | (refine AWL.callV (f := 21) rfl rfl rfl rfl ?_ (Nat.le_of_ble_eq_true rfl) rfl (hput1) ?_; (focus kernel_rfl))
          | (refine AWL.call (f := 21) rfl rfl rfl ?_ rfl (Nat.le_of_ble_eq_true rfl) rfl (hput1) ?_; (focus kernel_rfl))
          | (refine CWr.call (f := 21) rfl ?_ rfl (hput1) (fun _ _ h => h) ?_ ?_ ?_; (focus kernel_rfl))
          | (refine AWL.callV (f := 21) rfl rfl rfl rfl ?_ (Nat.le_of_ble_eq_true rfl) rfl (hput2) ?_; (focus kernel_rfl))
          | (refine AWL.call (f := 21) rfl rfl rfl ?_ rfl (Nat.le_of_ble_eq_true rfl) rfl (hput2) ?_; (focus kernel_rfl))
          | (refine CWr.call (f := 21) rfl ?_ rfl (hput2) (fun _ _ h => h) ?_ ?_ ?_; (focus kernel_rfl))
          | (refine AWL.callV (f := 23) rfl rfl rfl rfl ?_ (Nat.le_of_ble_eq_true rfl) rfl (htake) ?_; (focus kernel_rfl))
          | (refine AWL.call (f := 23) rfl rfl rfl ?_ rfl (Nat.le_of_ble_eq_true rfl) rfl (htake) ?_; (focus kernel_rfl))
          | (refine CWr.call (f := 23) rfl ?_ rfl (htake) (fun _ _ h => h) ?_ ?_ ?_; (focus kernel_rfl))
          | (refine AWL.callV (f := 15) rfl rfl rfl rfl ?_ (Nat.le_of_ble_eq_true rfl) rfl (htypes1) ?_; (focus kernel_rfl))
          | (refine AWL.call (f := 15) rfl rfl rfl ?_ rfl (Nat.le_of_ble_eq_true rfl) rfl (htypes1) ?_; (focus kernel_rfl))
          | (refine CWr.call (f := 15) rfl ?_ rfl (htypes1) (fun _ _ h => h) ?_ ?_ ?_; (focus kernel_rfl))
          | (refine AWL.callV (f := 15) rfl rfl rfl rfl ?_ (Nat.le_of_ble_eq_true rfl) rfl (htypes2) ?_; (focus kernel_rfl))
          | (refine AWL.call (f := 15) rfl rfl rfl ?_ rfl (Nat.le_of_ble_eq_true rfl) rfl (htypes2) ?_; (focus kernel_rfl))
          | (refine CWr.call (f := 15) rfl ?_ rfl (htypes2) (fun _ _ h => h) ?_ ?_ ?_; (focus kernel_rfl))
          | (refine AWL.callV (f := 16) rfl rfl rfl rfl ?_ (Nat.le_of_ble_eq_true rfl) rfl (hoffs) ?_; (focus kernel_rfl))
          | (refine AWL.call (f := 16) rfl rfl rfl ?_ rfl (Nat.le_of_ble_eq_true rfl) rfl (hoffs) ?_; (focus kernel_rfl))
          | (refine CWr.call (f := 16) rfl ?_ rfl (hoffs) (fun _ _ h => h) ?_ ?_ ?_; (focus kernel_rfl))
          | (refine AWL.callV (f := 12) rfl rfl rfl rfl ?_ (Nat.le_of_ble_eq_true rfl) rfl (hwidth1) ?_; (focus kernel_rfl))
          | (refine AWL.call (f := 12) rfl rfl rfl ?_ rfl (Nat.le_of_ble_eq_true rfl) rfl (hwidth1) ?_; (focus kernel_rfl))
          | (refine CWr.call (f := 12) rfl ?_ rfl (hwidth1) (fun _ _ h => h) ?_ ?_ ?_; (focus kernel_rfl))
          | (refine AWL.callV (f := 12) rfl rfl rfl rfl ?_ (Nat.le_of_ble_eq_true rfl) rfl (hwidth2) ?_; (focus kernel_rfl))
          | (refine AWL.call (f := 12) rfl rfl rfl ?_ rfl (Nat.le_of_ble_eq_true rfl) rfl (hwidth2) ?_; (focus kernel_rfl))
          | (refine CWr.call (f := 12) rfl ?_ rfl (hwidth2) (fun _ _ h => h) ?_ ?_ ?_; (focus kernel_rfl))
          | (refine AWL.callV (f := 14) rfl rfl rfl rfl ?_ (Nat.le_of_ble_eq_true rfl) rfl (hsame) ?_; (focus kernel_rfl))
          | (refine AWL.call (f := 14) rfl rfl rfl ?_ rfl (Nat.le_of_ble_eq_true rfl) rfl (hsame) ?_; (focus kernel_rfl))
          | (refine CWr.call (f := 14) rfl ?_ rfl (hsame) (fun _ _ h => h) ?_ ?_ ?_; (focus kernel_rfl))
          | (refine AWL.callV (f := 22) rfl rfl rfl rfl ?_ (Nat.le_of_ble_eq_true rfl) rfl (split_ok _ hv1 hv2) ?_; (focus kernel_rfl))
          | (refine AWL.call (f := 22) rfl rfl rfl ?_ rfl (Nat.le_of_ble_eq_true rfl) rfl (split_ok _ hv1 hv2) ?_; (focus kernel_rfl))
          | (refine CWr.call (f := 22) rfl ?_ rfl (split_ok _ hv1 hv2) (fun _ _ h => h) ?_ ?_ ?_; (focus kernel_rfl))
          | fail) <;> (try ((first | show AWL _ _ _ _ _ | show AW _ _ _ _ | show FW _ _ _ _ _ _ _ _ _ _ | show CW _ _ _ _ _ _ _ _ _ _ _ _ | (rintro _ _ ⟨rfl, rfl⟩; (try refine And.intro rfl ?_))); (try (conv => arg -1; simp (disch := omega) only [NSX, Nat.reduceBEq, Nat.reduceAdd, Nat.reduceMul, Int.reduceToNat, Nat.reduceSub, TY, slx, take16, drop16, dz, nums_length, B9, B14, e5, hld, hv1, h1, hat, g0, hIX, eq_self, decide_true, bne_self_eq_false, Bool.not_true])))))
        | ((first | refine AWL.guard2 rfl rfl rfl rfl rfl rfl ?_ ?_ | refine CW.guard2 rfl rfl rfl rfl rfl rfl rfl rfl ?_ ?_) <;> (intro hc; (try simp only [Bool.not_true, Bool.not_false] at hc); first | (cases hc; done) | ((try simp only [hc]); (try simp only [beq_iff_eq, bne_iff_ne, decide_eq_true_eq, decide_eq_false_iff_not, beq_eq_false_iff_ne, bne_eq_false_iff_eq, ne_eq, Bool.not_eq_true, Bool.not_eq_false, Bool.not_eq_eq_eq_not, Bool.not_true, Bool.not_false, Decidable.not_not, Int.not_lt, Int.not_le] at hc); (try (exfalso; omega)); (try (guard_hyp hc : True; clear hc)))) <;> (try (first | (with_reducible show AWL _ _ _ _ (St.put _ _ _)) | (with_reducible show CW _ _ _ _ _ _ _ _ _ _ _ (St.put _ _ _))); (try (conv => arg -1; simp (disch := omega) only [NSX, Nat.reduceBEq, Nat.reduceAdd, Nat.reduceMul, Int.reduceToNat, Nat.reduceSub, TY, slx, take16, drop16, dz, nums_length, B9, B14, e5, hld, hv1, h1, hat, g0, hIX, eq_self, decide_true, bne_self_eq_false, Bool.not_true]))))
        | (refine AWL.guard2 rfl rfl rfl rfl rfl rfl (fun hc => ?_) ?_; (cases hc; done))
        | ((first | ((show AW _ (.region _ _ true) _ _); refine AW.calm false [] [] hmix (by (repeat' (first | exact panOk_end | exact panOk_endM | refine panOk_then ?_ | refine panOk_block ?_ | refine QEq.pan (by assumption) ?_))) ?_ rfl ?_; (focus (as_aux_lemma => kernel_rfl))) | refine AWL.guardU rfl rfl rfl rfl rfl rfl ?_ | refine CW.guardU rfl rfl rfl rfl rfl rfl rfl rfl ?_); (try (conv => arg -1; simp (disch := omega) only [NSX, Nat.reduceBEq, Nat.reduceAdd, Nat.reduceMul, Int.reduceToNat, Nat.reduceSub, TY, slx, take16, drop16, dz, nums_length, B9, B14, e5, hld, hv1, h1, hat, g0, hIX, eq_self, decide_true, bne_self_eq_false, Bool.not_true])))
        | refine CW.tail rfl ?_
        | (refine AW.cond rfl (fun hc => ?_) (fun hc => ?_) <;> first | (cases hc; done) | ((try simp only [beq_iff_eq, bne_iff_ne, decide_eq_true_eq, decide_eq_false_iff_not, beq_eq_false_iff_ne, bne_eq_false_iff_eq, ne_eq, Bool.not_eq_true, Bool.not_eq_false, Bool.not_eq_eq_eq_not, Bool.not_true, Bool.not_false, Decidable.not_not, Int.not_lt, Int.not_le] at hc); (try (exfalso; omega)); (try (guard_hyp hc : True; clear hc))))
        | ((refine EndQ.mk rfl rfl rfl ?_ ?_ ?_; (focus (first | exact Or.inl rfl | exact Or.inr rfl))) <;> (try simp (disch := omega) only [NSX, Nat.reduceBEq, Nat.reduceAdd, Nat.reduceMul, Int.reduceToNat, Nat.reduceSub, TY, slx, take16, drop16, dz, nums_length, B9, B14, e5, hld, hv1, h1, hat, g0, hIX, eq_self, decide_true, bne_self_eq_false, Bool.not_true]))
        | (focus ((first | exact trivial | omega | (refine And.intro (by kernel_rfl) (And.intro ⟨_, (by first | exact nums_ints _ _ | rfl), (by first | exact nums_ints _ _ | rfl)⟩ (And.intro ?_ ?_)) <;> (first | rfl | assumption | (simp only [nums_length]; omega) | omega)) | (refine And.intro ?_ (And.intro ?_ ?_); (focus kernel_rfl); (focus kernel_rfl); (focus kernel_rfl)) | ((show newKs _ _ _ = true); kernel_rfl) | ((show FitV _ _ _ _ _ _); (repeat' (first | exact trivial | exact Or.inr (Or.inl rfl) | exact Or.inl rfl | exact Or.inr (Or.inr rfl) | refine And.intro ?_ ?_)); done) | assumption | ((first | refine ld_nums i3 _ _ ?_ | refine ld_nums i52 _ _ ?_ | refine ld_nums i5 _ _ ?_ | refine at_nums i3 _ _ ?_ | refine at_nums i52 _ _ ?_ | refine at_nums i5 _ _ ?_); first | assumption | omega | (simp only [List.length_append]; omega)) | (show _ ≤ _; omega) | (simp only [List.length_take, List.length_drop, List.length_append, List.length_cons, List.length_nil]; omega) | ((repeat' (first | exact trivial | exact rfl | exact Nat.le_of_ble_eq_true rfl | refine And.intro ?_ ?_ | fail)); done) | ((try simp (disch := omega) only [NSX, Nat.reduceBEq, Nat.reduceAdd, Nat.reduceMul, Int.reduceToNat, Nat.reduceSub, TY, slx, take16, drop16, dz, nums_length, B9, B14, e5, hld, hv1, h1, hat, g0, hIX, eq_self, decide_true, bne_self_eq_false, Bool.not_true]); (repeat' (first | exact trivial | exact rfl | exact ⟨_, _, rfl⟩ | exact ⟨_, rfl⟩ | exact Nat.le_of_ble_eq_true rfl | exact Nat.zero_lt_succ _ | omega | (simp only [nums_length, toB_len] at *; omega) | refine And.intro ?_ ?_ | fail)); done)); done))
        | fail)
      all_goals try simp (disch := omega) only [NSX, Nat.reduceBEq, Nat.reduceAdd, Nat.reduceMul, Int.reduceToNat, Nat.reduceSub, TY, slx, take16, drop16, dz, nums_length, B9, B14, e5]
      all_goals first
        | exact ⟨ts.length - (k + 1), by omega, k + 1, rfl, by omega, rfl⟩
        | (exfalso; omega) | trace_state
    · rw [h1] at g0 g1 hdl
      simp only [put1, Int.reduceEq, ↓reduceIte, List.length_cons, List.length_nil] at hdl
      have hwl : w + 1 < X.length := by
        rcases hdl with h | h
        · omega
        · cases h
      have g0 : X.getD w 0 = lo (vs.getD k []) := g0
      have g1 : X.getD (w + 1) 0 = hi (vs.getD k []) := g1
      have e6 : IntKind.i64.wrap ((w : Int) + 1) = ((w + 1 : Nat) : Int) := wrap64_id _ (by omega) (by omega)
      have hchk : True := by simp only [TY, slx, take16, drop16, dz, nums_length, B9, B14, e5, e6, hld, hv1, h1, hat, g0, g1, hIX, eq_self, decide_true, bne_self_eq_false, Bool.not_true]
      repeat' (first
        | (refine AWL.opN (sl := SL) rfl rfl rfl trivial ?_; (try (conv => arg -1; simp (disch := omega) only [NSX, Nat.reduceBEq, Nat.reduceAdd, Nat.reduceMul, Int.reduceToNat, Nat.reduceSub, TY, slx, take16, drop16, dz, nums_length, B9, B14, e5, e6, hld, hv1, h1, hat, g0, g1, hIX, eq_self, decide_true, bne_self_eq_false, Bool.not_true])))
        | (refine AW.seqQ ?_; intro Qn hQn)
        | (refine AW.blockQ ?_; intro Qn hQn)
        | refine AW.region ?_
        | ((first | refine AW.skip ?_ | refine AW.ret ?_ | refine AW.exit ?_ | refine AWL.nil ?_ | refine CW.nil ?_); (repeat (first | refine QEq.mp (by assumption) ?_ | simp only [thenQ, Go.Abs.blockQ, ↓reduceIte, Nat.reduceEqDiff])))
        | refine FW.nil ?_
        | refine FW.pass rfl rfl ?_
        | refine FW.go rfl ?_
        | refine CW.skip rfl rfl ?_
        | refine CW.step rfl rfl rfl rfl rfl ?_
        | ((first
          | (refine AWL.boxF (t := 57) rfl rfl rfl rfl rfl ?_)
          | (refine AWL.allocF (t := 57) rfl rfl rfl rfl rfl rfl ?_)
          | (refine CWr.allocF (t := 57) rfl rfl rfl ?_ ?_)
          | (refine AWL.op (sl := SL) rfl rfl ?_ ?_)
          | (refine FW.float rfl rfl rfl rfl rfl ?_)
          | (refine CWr.op rfl ?_ ?_ ?_)
          | (refine CWr.assign rfl ?_ ?_)
          | (refine CWr.alloc rfl rfl rfl rfl ?_)
          | (refine CWr.build rfl rfl rfl rfl ?_ rfl rfl rfl ?_)
          | ((show AWL _ _ ({ dst := _, op := _, type := _, pos := _, after := _, guard := none } :: _) _ _); refine AWL.frzA rfl rfl ?_)
          | (refine AWL.callV (f := 9) rfl rfl rfl rfl ?_ (Nat.le_of_ble_eq_true rfl) rfl (awake_ok) ?_; (focus kernel_rfl))
          | (refine AWL.call (f := 9) rfl rfl rfl ?_ rfl (Nat.le_of_ble_eq_true rfl) rfl (awake_ok) ?_; (focus kernel_rfl))
          | (refine CWr.call (f := 9) rfl ?_ rfl (awake_ok) (fun _ _ h => h) ?_ ?_ ?_; (focus kernel_rfl))
          | (refine AWL.callV (f := 21) rfl rfl rfl rfl ?_ (Nat.le_of_ble_eq_true rfl) rfl (hput1) ?_; (focus kernel_rfl))
          | (refine AWL.call (f := 21) rfl rfl rfl ?_ rfl (Nat.le_of_ble_eq_true rfl) rfl (hput1) ?_; (focus kernel_rfl))
          | (refine CWr.call (f := 21) rfl ?_ rfl (hput1) (fun _ _ h => h) ?_ ?_ ?_; (focus kernel_rfl))
          | (refine AWL.callV (f := 21) rfl rfl rfl rfl ?_ (Nat.le_of_ble_eq_true rfl) rfl (hput2) ?_; (focus kernel_rfl))
          | (refine AWL.call (f := 21) rfl rfl rfl ?_ rfl (Nat.le_of_ble_eq_true rfl) rfl (hput2) ?_; (focus kernel_rfl))
          | (refine CWr.call (f := 21) rfl ?_ rfl (hput2) (fun _ _ h => h) ?_ ?_ ?_; (focus kernel_rfl))
          | (refine AWL.callV (f := 23) rfl rfl rfl rfl ?_ (Nat.le_of_ble_eq_true rfl) rfl (htake) ?_; (focus kernel_rfl))
          | (refine AWL.call (f := 23) rfl rfl rfl ?_ rfl (Nat.le_of_ble_eq_true rfl) rfl (htake) ?_; (focus kernel_rfl))
          | (refine CWr.call (f := 23) rfl ?_ rfl (htake) (fun _ _ h => h) ?_ ?_ ?_; (focus kernel_rfl))
          | (refine AWL.callV (f := 15) rfl rfl rfl rfl ?_ (Nat.le_of_ble_eq_true rfl) rfl (htypes1) ?_; (focus kernel_rfl))
          | (refine AWL.call (f := 15) rfl rfl rfl ?_ rfl (Nat.le_of_ble_eq_true rfl) rfl (htypes1) ?_; (focus kernel_rfl))
          | (refine CWr.call (f := 15) rfl ?_ rfl (htypes1) (fun _ _ h => h) ?_ ?_ ?_; (focus kernel_rfl))
          | (refine AWL.callV (f := 15) rfl rfl rfl rfl ?_ (Nat.le_of_ble_eq_true rfl) rfl (htypes2) ?_; (focus kernel_rfl))
          | (refine AWL.call (f := 15) rfl rfl rfl ?_ rfl (Nat.le_of_ble_eq_true rfl) rfl (htypes2) ?_; (focus kernel_rfl))
          | (refine CWr.call (f := 15) rfl ?_ rfl (htypes2) (fun _ _ h => h) ?_ ?_ ?_; (focus kernel_rfl))
          | (refine AWL.callV (f := 16) rfl rfl rfl rfl ?_ (Nat.le_of_ble_eq_true rfl) rfl (hoffs) ?_; (focus kernel_rfl))
          | (refine AWL.call (f := 16) rfl rfl rfl ?_ rfl (Nat.le_of_ble_eq_true rfl) rfl (hoffs) ?_; (focus kernel_rfl))
          | (refine CWr.call (f := 16) rfl ?_ rfl (hoffs) (fun _ _ h => h) ?_ ?_ ?_; (focus kernel_rfl))
          | (refine AWL.callV (f := 12) rfl rfl rfl rfl ?_ (Nat.le_of_ble_eq_true rfl) rfl (hwidth1) ?_; (focus kernel_rfl))
          | (refine AWL.call (f := 12) rfl rfl rfl ?_ rfl (Nat.le_of_ble_eq_true rfl) rfl (hwidth1) ?_; (focus kernel_rfl))
          | (refine CWr.call (f := 12) rfl ?_ rfl (hwidth1) (fun _ _ h => h) ?_ ?_ ?_; (focus kernel_rfl))
          | (refine AWL.callV (f := 12) rfl rfl rfl rfl ?_ (Nat.le_of_ble_eq_true rfl) rfl (hwidth2) ?_; (focus kernel_rfl))
          | (refine AWL.call (f := 12) rfl rfl rfl ?_ rfl (Nat.le_of_ble_eq_true rfl) rfl (hwidth2) ?_; (focus kernel_rfl))
          | (refine CWr.call (f := 12) rfl ?_ rfl (hwidth2) (fun _ _ h => h) ?_ ?_ ?_; (focus kernel_rfl))
          | (refine AWL.callV (f := 14) rfl rfl rfl rfl ?_ (Nat.le_of_ble_eq_true rfl) rfl (hsame) ?_; (focus kernel_rfl))
          | (refine AWL.call (f := 14) rfl rfl rfl ?_ rfl (Nat.le_of_ble_eq_true rfl) rfl (hsame) ?_; (focus kernel_rfl))
          | (refine CWr.call (f := 14) rfl ?_ rfl (hsame) (fun _ _ h => h) ?_ ?_ ?_; (focus kernel_rfl))
          | (refine AWL.callV (f := 22) rfl rfl rfl rfl ?_ (Nat.le_of_ble_eq_true rfl) rfl (split_ok _ hv1 hv2) ?_; (focus kernel_rfl))
          | (refine AWL.call (f := 22) rfl rfl rfl ?_ rfl (Nat.le_of_ble_eq_true rfl) rfl (split_ok _ hv1 hv2) ?_; (focus kernel_rfl))
          | (refine CWr.call (f := 22) rfl ?_ rfl (split_ok _ hv1 hv2) (fun _ _ h => h) ?_ ?_ ?_; (focus kernel_rfl))
          | fail) <;> (try ((first | show AWL _ _ _ _ _ | show AW _ _ _ _ | show FW _ _ _ _ _ _ _ _ _ _ | show CW _ _ _ _ _ _ _ _ _ _ _ _ | (rintro _ _ ⟨rfl, rfl⟩; (try refine And.intro rfl ?_))); (try (conv => arg -1; simp (disch := omega) only [NSX, Nat.reduceBEq, Nat.reduceAdd, Nat.reduceMul, Int.reduceToNat, Nat.reduceSub, TY, slx, take16, drop16, dz, nums_length, B9, B14, e5, e6, hld, hv1, h1, hat, g0, g1, hIX, eq_self, decide_true, bne_self_eq_false, Bool.not_true])))))
        | ((first | refine AWL.guard2 rfl rfl rfl rfl rfl rfl ?_ ?_ | refine CW.guard2 rfl rfl rfl rfl rfl rfl rfl rfl ?_ ?_) <;> (intro hc; (try simp only [Bool.not_true, Bool.not_false] at hc); first | (cases hc; done) | ((try simp only [hc]); (try simp only [beq_iff_eq, bne_iff_ne, decide_eq_true_eq, decide_eq_false_iff_not, beq_eq_false_iff_ne, bne_eq_false_iff_eq, ne_eq, Bool.not_eq_true, Bool.not_eq_false, Bool.not_eq_eq_eq_not, Bool.not_true, Bool.not_false, Decidable.not_not, Int.not_lt, Int.not_le] at hc); (try (exfalso; omega)); (try (guard_hyp hc : True; clear hc)))) <;> (try (first | (with_reducible show AWL _ _ _ _ (St.put _ _ _)) | (with_reducible show CW _ _ _ _ _ _ _ _ _ _ _ (St.put _ _ _))); (try (conv => arg -1; simp (disch := omega) only [NSX, Nat.reduceBEq, Nat.reduceAdd, Nat.reduceMul, Int.reduceToNat, Nat.reduceSub, TY, slx, take16, drop16, dz, nums_length, B9, B14, e5, e6, hld, hv1, h1, hat, g0, g1, hIX, eq_self, decide_true, bne_self_eq_false, Bool.not_true]))))
        | (refine AWL.guard2 rfl rfl rfl rfl rfl rfl (fun hc => ?_) ?_; (cases hc; done))
        | ((first | ((show AW _ (.region _ _ true) _ _); refine AW.calm false [] [] hmix (by (repeat' (first | exact panOk_end | exact panOk_endM | refine panOk_then ?_ | refine panOk_block ?_ | refine QEq.pan (by assumption) ?_))) ?_ rfl ?_; (focus (as_aux_lemma => kernel_rfl))) | refine AWL.guardU rfl rfl rfl rfl rfl rfl ?_ | refine CW.guardU rfl rfl rfl rfl rfl rfl rfl rfl ?_); (try (conv => arg -1; simp (disch := omega) only [NSX, Nat.reduceBEq, Nat.reduceAdd, Nat.reduceMul, Int.reduceToNat, Nat.reduceSub, TY, slx, take16, drop16, dz, nums_length, B9, B14, e5, e6, hld, hv1, h1, hat, g0, g1, hIX, eq_self, decide_true, bne_self_eq_false, Bool.not_true])))
        | refine CW.tail rfl ?_
        | (refine AW.cond rfl (fun hc => ?_) (fun hc => ?_) <;> first | (cases hc; done) | ((try simp only [beq_iff_eq, bne_iff_ne, decide_eq_true_eq, decide_eq_false_iff_not, beq_eq_false_iff_ne, bne_eq_false_iff_eq, ne_eq, Bool.not_eq_true, Bool.not_eq_false, Bool.not_eq_eq_eq_not, Bool.not_true, Bool.not_false, Decidable.not_not, Int.not_lt, Int.not_le] at hc); (try (exfalso; omega)); (try (guard_hyp hc : True; clear hc))))
        | ((refine EndQ.mk rfl rfl rfl ?_ ?_ ?_; (focus (first | exact Or.inl rfl | exact Or.inr rfl))) <;> (try simp (disch := omega) only [NSX, Nat.reduceBEq, Nat.reduceAdd, Nat.reduceMul, Int.reduceToNat, Nat.reduceSub, TY, slx, take16, drop16, dz, nums_length, B9, B14, e5, e6, hld, hv1, h1, hat, g0, g1, hIX, eq_self, decide_true, bne_self_eq_false, Bool.not_true]))
        | (focus ((first | exact trivial | omega | (refine And.intro (by kernel_rfl) (And.intro ⟨_, (by first | exact nums_ints _ _ | rfl), (by first | exact nums_ints _ _ | rfl)⟩ (And.intro ?_ ?_)) <;> (first | rfl | assumption | (simp only [nums_length]; omega) | omega)) | (refine And.intro ?_ (And.intro ?_ ?_); (focus kernel_rfl); (focus kernel_rfl); (focus kernel_rfl)) | ((show newKs _ _ _ = true); kernel_rfl) | ((show FitV _ _ _ _ _ _); (repeat' (first | exact trivial | exact Or.inr (Or.inl rfl) | exact Or.inl rfl | exact Or.inr (Or.inr rfl) | refine And.intro ?_ ?_)); done) | assumption | ((first | refine ld_nums i3 _ _ ?_ | refine ld_nums i52 _ _ ?_ | refine ld_nums i5 _ _ ?_ | refine at_nums i3 _ _ ?_ | refine at_nums i52 _ _ ?_ | refine at_nums i5 _ _ ?_); first | assumption | omega | (simp only [List.length_append]; omega)) | (show _ ≤ _; omega) | (simp only [List.length_take, List.length_drop, List.length_append, List.length_cons, List.length_nil]; omega) | ((repeat' (first | exact trivial | exact rfl | exact Nat.le_of_ble_eq_true rfl | refine And.intro ?_ ?_ | fail)); done) | ((try simp (disch := omega) only [NSX, Nat.reduceBEq, Nat.reduceAdd, Nat.reduceMul, Int.reduceToNat, Nat.reduceSub, TY, slx, take16, drop16, dz, nums_length, B9, B14, e5, e6, hld, hv1, h1, hat, g0, g1, hIX, eq_self, decide_true, bne_self_eq_false, Bool.not_true]); (repeat' (first | exact trivial | exact rfl | exact ⟨_, _, rfl⟩ | exact ⟨_, rfl⟩ | exact Nat.le_of_ble_eq_true rfl | exact Nat.zero_lt_succ _ | omega | (simp only [nums_length, toB_len] at *; omega) | refine And.intro ?_ ?_ | fail)); done)); done))
        | fail)
      all_goals try simp (disch := omega) only [NSX, Nat.reduceBEq, Nat.reduceAdd, Nat.reduceMul, Int.reduceToNat, Nat.reduceSub, TY, slx, take16, drop16, dz, nums_length, B9, B14, e5]
      all_goals first
        | exact ⟨ts.length - (k + 1), by omega, k + 1, rfl, by omega, rfl⟩
        | (exfalso; omega) | trace_state
    · exact absurd h0 hn0
  · have hchk : True := by simp only [TY, slx, take16, drop16, dz, nums_length, B9, B14, hXt, hIt, hBt, eq_self, decide_true, bne_self_eq_false, Bool.not_true]
    repeat' (first
      | (refine AWL.opN (sl := SL) rfl rfl rfl trivial ?_; (try (conv => arg -1; simp (disch := omega) only [NSX, Nat.reduceBEq, Nat.reduceAdd, Nat.reduceMul, Int.reduceToNat, Nat.reduceSub, TY, slx, take16, drop16, dz, nums_length, B9, B14, hXt, hIt, hBt, eq_self, decide_true, bne_self_eq_false, Bool.not_true])))
      | (refine AW.seqQ ?_; intro Qn hQn)
      | (refine AW.blockQ ?_; intro Qn hQn)
      | refine AW.region ?_
      | ((first | refine AW.skip ?_ | refine AW.ret ?_ | refine AW.exit ?_ | refine AWL.nil ?_ | refine CW.nil ?_); (repeat (first | refine QEq.mp (by assumption) ?_ | simp only [thenQ, Go.Abs.blockQ, ↓reduceIte, Nat.reduceEqDiff])))
      | refine FW.nil ?_
      | refine FW.pass rfl rfl ?_
      | refine FW.go rfl ?_
      | refine CW.skip rfl rfl ?_
      | refine CW.step rfl rfl rfl rfl rfl ?_
      | ((first
        | (refine AWL.boxF (t := 57) rfl rfl rfl rfl rfl ?_)
        | (refine AWL.allocF (t := 57) rfl rfl rfl rfl rfl rfl ?_)
        | (refine CWr.allocF (t := 57) rfl rfl rfl ?_ ?_)
        | (refine AWL.op (sl := SL) rfl rfl ?_ ?_)
        | (refine FW.float rfl rfl rfl rfl rfl ?_)
        | (refine CWr.op rfl ?_ ?_ ?_)
        | (refine CWr.assign rfl ?_ ?_)
        | (refine CWr.alloc rfl rfl rfl rfl ?_)
        | (refine CWr.build rfl rfl rfl rfl ?_ rfl rfl rfl ?_)
        | ((show AWL _ _ ({ dst := _, op := _, type := _, pos := _, after := _, guard := none } :: _) _ _); refine AWL.frzA rfl rfl ?_)
        | (refine AWL.callV (f := 9) rfl rfl rfl rfl ?_ (Nat.le_of_ble_eq_true rfl) rfl (awake_ok) ?_; (focus kernel_rfl))
        | (refine AWL.call (f := 9) rfl rfl rfl ?_ rfl (Nat.le_of_ble_eq_true rfl) rfl (awake_ok) ?_; (focus kernel_rfl))
        | (refine CWr.call (f := 9) rfl ?_ rfl (awake_ok) (fun _ _ h => h) ?_ ?_ ?_; (focus kernel_rfl))
        | (refine AWL.callV (f := 21) rfl rfl rfl rfl ?_ (Nat.le_of_ble_eq_true rfl) rfl (hput1) ?_; (focus kernel_rfl))
        | (refine AWL.call (f := 21) rfl rfl rfl ?_ rfl (Nat.le_of_ble_eq_true rfl) rfl (hput1) ?_; (focus kernel_rfl))
        | (refine CWr.call (f := 21) rfl ?_ rfl (hput1) (fun _ _ h => h) ?_ ?_ ?_; (focus kernel_rfl))
        | (refine AWL.callV (f := 21) rfl rfl rfl rfl ?_ (Nat.le_of_ble_eq_true rfl) rfl (hput2) ?_; (focus kernel_rfl))
        | (refine AWL.call (f := 21) rfl rfl rfl ?_ rfl (Nat.le_of_ble_eq_true rfl) rfl (hput2) ?_; (focus kernel_rfl))
        | (refine CWr.call (f := 21) rfl ?_ rfl (hput2) (fun _ _ h => h) ?_ ?_ ?_; (focus kernel_rfl))
        | (refine AWL.callV (f := 23) rfl rfl rfl rfl ?_ (Nat.le_of_ble_eq_true rfl) rfl (htake) ?_; (focus kernel_rfl))
        | (refine AWL.call (f := 23) rfl rfl rfl ?_ rfl (Nat.le_of_ble_eq_true rfl) rfl (htake) ?_; (focus kernel_rfl))
        | (refine CWr.call (f := 23) rfl ?_ rfl (htake) (fun _ _ h => h) ?_ ?_ ?_; (focus kernel_rfl))
        | (refine AWL.callV (f := 15) rfl rfl rfl rfl ?_ (Nat.le_of_ble_eq_true rfl) rfl (htypes1) ?_; (focus kernel_rfl))
        | (refine AWL.call (f := 15) rfl rfl rfl ?_ rfl (Nat.le_of_ble_eq_true rfl) rfl (htypes1) ?_; (focus kernel_rfl))
        | (refine CWr.call (f := 15) rfl ?_ rfl (htypes1) (fun _ _ h => h) ?_ ?_ ?_; (focus kernel_rfl))
        | (refine AWL.callV (f := 15) rfl rfl rfl rfl ?_ (Nat.le_of_ble_eq_true rfl) rfl (htypes2) ?_; (focus kernel_rfl))
        | (refine AWL.call (f := 15) rfl rfl rfl ?_ rfl (Nat.le_of_ble_eq_true rfl) rfl (htypes2) ?_; (focus kernel_rfl))
        | (refine CWr.call (f := 15) rfl ?_ rfl (htypes2) (fun _ _ h => h) ?_ ?_ ?_; (focus kernel_rfl))
        | (refine AWL.callV (f := 16) rfl rfl rfl rfl ?_ (Nat.le_of_ble_eq_true rfl) rfl (hoffs) ?_; (focus kernel_rfl))
        | (refine AWL.call (f := 16) rfl rfl rfl ?_ rfl (Nat.le_of_ble_eq_true rfl) rfl (hoffs) ?_; (focus kernel_rfl))
        | (refine CWr.call (f := 16) rfl ?_ rfl (hoffs) (fun _ _ h => h) ?_ ?_ ?_; (focus kernel_rfl))
        | (refine AWL.callV (f := 12) rfl rfl rfl rfl ?_ (Nat.le_of_ble_eq_true rfl) rfl (hwidth1) ?_; (focus kernel_rfl))
        | (refine AWL.call (f := 12) rfl rfl rfl ?_ rfl (Nat.le_of_ble_eq_true rfl) rfl (hwidth1) ?_; (focus kernel_rfl))
        | (refine CWr.call (f := 12) rfl ?_ rfl (hwidth1) (fun _ _ h => h) ?_ ?_ ?_; (focus kernel_rfl))
        | (refine AWL.callV (f := 12) rfl rfl rfl rfl ?_ (Nat.le_of_ble_eq_true rfl) rfl (hwidth2) ?_; (focus kernel_rfl))
        | (refine AWL.call (f := 12) rfl rfl rfl ?_ rfl (Nat.le_of_ble_eq_true rfl) rfl (hwidth2) ?_; (focus kernel_rfl))
        | (refine CWr.call (f := 12) rfl ?_ rfl (hwidth2) (fun _ _ h => h) ?_ ?_ ?_; (focus kernel_rfl))
        | (refine AWL.callV (f := 14) rfl rfl rfl rfl ?_ (Nat.le_of_ble_eq_true rfl) rfl (hsame) ?_; (focus kernel_rfl))
        | (refine AWL.call (f := 14) rfl rfl rfl ?_ rfl (Nat.le_of_ble_eq_true rfl) rfl (hsame) ?_; (focus kernel_rfl))
        | (refine CWr.call (f := 14) rfl ?_ rfl (hsame) (fun _ _ h => h) ?_ ?_ ?_; (focus kernel_rfl))
        | (refine AWL.callV (f := 22) rfl rfl rfl rfl ?_ (Nat.le_of_ble_eq_true rfl) rfl (split_ok _ hv1 hv2) ?_; (focus kernel_rfl))
        | (refine AWL.call (f := 22) rfl rfl rfl ?_ rfl (Nat.le_of_ble_eq_true rfl) rfl (split_ok _ hv1 hv2) ?_; (focus kernel_rfl))
        | (refine CWr.call (f := 22) rfl ?_ rfl (split_ok _ hv1 hv2) (fun _ _ h => h) ?_ ?_ ?_; (focus kernel_rfl))
        | fail) <;> (try ((first | show AWL _ _ _ _ _ | show AW _ _ _ _ | show FW _ _ _ _ _ _ _ _ _ _ | show CW _ _ _ _ _ _ _ _ _ _ _ _ | (rintro _ _ ⟨rfl, rfl⟩; (try refine And.intro rfl ?_))); (try (conv => arg -1; simp (disch := omega) only [NSX, Nat.reduceBEq, Nat.reduceAdd, Nat.reduceMul, Int.reduceToNat, Nat.reduceSub, TY, slx, take16, drop16, dz, nums_length, B9, B14, hXt, hIt, hBt, eq_self, decide_true, bne_self_eq_false, Bool.not_true])))))
      | ((first | refine AWL.guard2 rfl rfl rfl rfl rfl rfl ?_ ?_ | refine CW.guard2 rfl rfl rfl rfl rfl rfl rfl rfl ?_ ?_) <;> (intro hc; (try simp only [Bool.not_true, Bool.not_false] at hc); first | (cases hc; done) | ((try simp only [hc]); (try simp only [beq_iff_eq, bne_iff_ne, decide_eq_true_eq, decide_eq_false_iff_not, beq_eq_false_iff_ne, bne_eq_false_iff_eq, ne_eq, Bool.not_eq_true, Bool.not_eq_false, Bool.not_eq_eq_eq_not, Bool.not_true, Bool.not_false, Decidable.not_not, Int.not_lt, Int.not_le] at hc); (try (exfalso; omega)); (try (guard_hyp hc : True; clear hc)))) <;> (try (first | (with_reducible show AWL _ _ _ _ (St.put _ _ _)) | (with_reducible show CW _ _ _ _ _ _ _ _ _ _ _ (St.put _ _ _))); (try (conv => arg -1; simp (disch := omega) only [NSX, Nat.reduceBEq, Nat.reduceAdd, Nat.reduceMul, Int.reduceToNat, Nat.reduceSub, TY, slx, take16, drop16, dz, nums_length, B9, B14, hXt, hIt, hBt, eq_self, decide_true, bne_self_eq_false, Bool.not_true]))))
      | (refine AWL.guard2 rfl rfl rfl rfl rfl rfl (fun hc => ?_) ?_; (cases hc; done))
      | ((first | ((show AW _ (.region _ _ true) _ _); refine AW.calm false [] [] hmix (by (repeat' (first | exact panOk_end | exact panOk_endM | refine panOk_then ?_ | refine panOk_block ?_ | refine QEq.pan (by assumption) ?_))) ?_ rfl ?_; (focus (as_aux_lemma => kernel_rfl))) | refine AWL.guardU rfl rfl rfl rfl rfl rfl ?_ | refine CW.guardU rfl rfl rfl rfl rfl rfl rfl rfl ?_); (try (conv => arg -1; simp (disch := omega) only [NSX, Nat.reduceBEq, Nat.reduceAdd, Nat.reduceMul, Int.reduceToNat, Nat.reduceSub, TY, slx, take16, drop16, dz, nums_length, B9, B14, hXt, hIt, hBt, eq_self, decide_true, bne_self_eq_false, Bool.not_true])))
      | refine CW.tail rfl ?_
      | (refine AW.cond rfl (fun hc => ?_) (fun hc => ?_) <;> first | (cases hc; done) | ((try simp only [beq_iff_eq, bne_iff_ne, decide_eq_true_eq, decide_eq_false_iff_not, beq_eq_false_iff_ne, bne_eq_false_iff_eq, ne_eq, Bool.not_eq_true, Bool.not_eq_false, Bool.not_eq_eq_eq_not, Bool.not_true, Bool.not_false, Decidable.not_not, Int.not_lt, Int.not_le] at hc); (try (exfalso; omega)); (try (guard_hyp hc : True; clear hc))))
      | ((refine EndQ.mk rfl rfl rfl ?_ ?_ ?_; (focus (first | exact Or.inl rfl | exact Or.inr rfl))) <;> (try simp (disch := omega) only [NSX, Nat.reduceBEq, Nat.reduceAdd, Nat.reduceMul, Int.reduceToNat, Nat.reduceSub, TY, slx, take16, drop16, dz, nums_length, B9, B14, hXt, hIt, hBt, eq_self, decide_true, bne_self_eq_false, Bool.not_true]))
      | (focus ((first | exact trivial | omega | (refine And.intro (by kernel_rfl) (And.intro ⟨_, (by first | exact nums_ints _ _ | rfl), (by first | exact nums_ints _ _ | rfl)⟩ (And.intro ?_ ?_)) <;> (first | rfl | assumption | (simp only [nums_length]; omega) | omega)) | (refine And.intro ?_ (And.intro ?_ ?_); (focus kernel_rfl); (focus kernel_rfl); (focus kernel_rfl)) | ((show newKs _ _ _ = true); kernel_rfl) | ((show FitV _ _ _ _ _ _); (repeat' (first | exact trivial | exact Or.inr (Or.inl rfl) | exact Or.inl rfl | exact Or.inr (Or.inr rfl) | refine And.intro ?_ ?_)); done) | assumption | ((first | refine ld_nums i3 _ _ ?_ | refine ld_nums i52 _ _ ?_ | refine ld_nums i5 _ _ ?_ | refine at_nums i3 _ _ ?_ | refine at_nums i52 _ _ ?_ | refine at_nums i5 _ _ ?_); first | assumption | omega | (simp only [List.length_append]; omega)) | (show _ ≤ _; omega) | (simp only [List.length_take, List.length_drop, List.length_append, List.length_cons, List.length_nil]; omega) | ((repeat' (first | exact trivial | exact rfl | exact Nat.le_of_ble_eq_true rfl | refine And.intro ?_ ?_ | fail)); done) | ((try simp (disch := omega) only [NSX, Nat.reduceBEq, Nat.reduceAdd, Nat.reduceMul, Int.reduceToNat, Nat.reduceSub, TY, slx, take16, drop16, dz, nums_length, B9, B14, hXt, hIt, hBt, eq_self, decide_true, bne_self_eq_false, Bool.not_true]); (repeat' (first | exact trivial | exact rfl | exact ⟨_, _, rfl⟩ | exact ⟨_, rfl⟩ | exact Nat.le_of_ble_eq_true rfl | exact Nat.zero_lt_succ _ | omega | (simp only [nums_length, toB_len] at *; omega) | refine And.intro ?_ ?_ | fail)); done)); done))
      | fail)
    refine AW.loop [4, 5, 7, 13, 14] [13] (fun m st => ∃ i : Nat, st = B14 X I i ∧ i ≤ X.length ∧ m = X.length - i) ?_ ?_
    · exact ⟨_, 0, rfl, Nat.zero_le _, rfl⟩
    rintro m st ⟨i, rfl, hi, rfl⟩
    have e7 : IntKind.i64.wrap ((i : Int) + 1) = ((i + 1 : Nat) : Int) := wrap64_id _ (by omega) (by omega)
    by_cases hin : i < X.length
    · have hchk : True := by simp only [TY, slx, take16, drop16, dz, nums_length, B9, B14, e7, bne_self_eq_false]
      repeat' (first
        | (refine AWL.opN (sl := SL) rfl rfl rfl trivial ?_; (try (conv => arg -1; simp (disch := omega) only [NSX, Nat.reduceBEq, Nat.reduceAdd, Nat.reduceMul, Int.reduceToNat, Nat.reduceSub, TY, slx, take16, drop16, dz, nums_length, B9, B14, e7, bne_self_eq_false])))
        | (refine AW.seqQ ?_; intro Qn hQn)
        | (refine AW.blockQ ?_; intro Qn hQn)
        | refine AW.region ?_
        | ((first | refine AW.skip ?_ | refine AW.ret ?_ | refine AW.exit ?_ | refine AWL.nil ?_ | refine CW.nil ?_); (repeat (first | refine QEq.mp (by assumption) ?_ | simp only [thenQ, Go.Abs.blockQ, ↓reduceIte, Nat.reduceEqDiff])))
        | refine FW.nil ?_
        | refine FW.pass rfl rfl ?_
        | refine FW.go rfl ?_
        | refine CW.skip rfl rfl ?_
        | refine CW.step rfl rfl rfl rfl rfl ?_
        | ((first
          | (refine AWL.boxF (t := 57) rfl rfl rfl rfl rfl ?_)
          | (refine AWL.allocF (t := 57) rfl rfl rfl rfl rfl rfl ?_)
          | (refine CWr.allocF (t := 57) rfl rfl rfl ?_ ?_)
          | (refine AWL.op (sl := SL) rfl rfl ?_ ?_)
          | (refine FW.float rfl rfl rfl rfl rfl ?_)
          | (refine CWr.op rfl ?_ ?_ ?_)
          | (refine CWr.assign rfl ?_ ?_)
          | (refine CWr.alloc rfl rfl rfl rfl ?_)
          | (refine CWr.build rfl rfl rfl rfl ?_ rfl rfl rfl ?_)
          | ((show AWL _ _ ({ dst := _, op := _, type := _, pos := _, after := _, guard := none } :: _) _ _); refine AWL.frzA rfl rfl ?_)
          | (refine AWL.callV (f := 9) rfl rfl rfl rfl ?_ (Nat.le_of_ble_eq_true rfl) rfl (awake_ok) ?_; (focus kernel_rfl))
          | (refine AWL.call (f := 9) rfl rfl rfl ?_ rfl (Nat.le_of_ble_eq_true rfl) rfl (awake_ok) ?_; (focus kernel_rfl))
          | (refine CWr.call (f := 9) rfl ?_ rfl (awake_ok) (fun _ _ h => h) ?_ ?_ ?_; (focus kernel_rfl))
          | (refine AWL.callV (f := 21) rfl rfl rfl rfl ?_ (Nat.le_of_ble_eq_true rfl) rfl (hput1) ?_; (focus kernel_rfl))
          | (refine AWL.call (f := 21) rfl rfl rfl ?_ rfl (Nat.le_of_ble_eq_true rfl) rfl (hput1) ?_; (focus kernel_rfl))
          | (refine CWr.call (f := 21) rfl ?_ rfl (hput1) (fun _ _ h => h) ?_ ?_ ?_; (focus kernel_rfl))
          | (refine AWL.callV (f := 21) rfl rfl rfl rfl ?_ (Nat.le_of_ble_eq_true rfl) rfl (hput2) ?_; (focus kernel_rfl))
          | (refine AWL.call (f := 21) rfl rfl rfl ?_ rfl (Nat.le_of_ble_eq_true rfl) rfl (hput2) ?_; (focus kernel_rfl))
          | (refine CWr.call (f := 21) rfl ?_ rfl (hput2) (fun _ _ h => h) ?_ ?_ ?_; (focus kernel_rfl))
          | (refine AWL.callV (f := 23) rfl rfl rfl rfl ?_ (Nat.le_of_ble_eq_true rfl) rfl (htake) ?_; (focus kernel_rfl))
          | (refine AWL.call (f := 23) rfl rfl rfl ?_ rfl (Nat.le_of_ble_eq_true rfl) rfl (htake) ?_; (focus kernel_rfl))
          | (refine CWr.call (f := 23) rfl ?_ rfl (htake) (fun _ _ h => h) ?_ ?_ ?_; (focus kernel_rfl))
          | (refine AWL.callV (f := 15) rfl rfl rfl rfl ?_ (Nat.le_of_ble_eq_true rfl) rfl (htypes1) ?_; (focus kernel_rfl))
          | (refine AWL.call (f := 15) rfl rfl rfl ?_ rfl (Nat.le_of_ble_eq_true rfl) rfl (htypes1) ?_; (focus kernel_rfl))
          | (refine CWr.call (f := 15) rfl ?_ rfl (htypes1) (fun _ _ h => h) ?_ ?_ ?_; (focus kernel_rfl))
          | (refine AWL.callV (f := 15) rfl rfl rfl rfl ?_ (Nat.le_of_ble_eq_true rfl) rfl (htypes2) ?_; (focus kernel_rfl))
          | (refine AWL.call (f := 15) rfl rfl rfl ?_ rfl (Nat.le_of_ble_eq_true rfl) rfl (htypes2) ?_; (focus kernel_rfl))
          | (refine CWr.call (f := 15) rfl ?_ rfl (htypes2) (fun _ _ h => h) ?_ ?_ ?_; (focus kernel_rfl))
          | (refine AWL.callV (f := 16) rfl rfl rfl rfl ?_ (Nat.le_of_ble_eq_true rfl) rfl (hoffs) ?_; (focus kernel_rfl))
          | (refine AWL.call (f := 16) rfl rfl rfl ?_ rfl (Nat.le_of_ble_eq_true rfl) rfl (hoffs) ?_; (focus kernel_rfl))
          | (refine CWr.call (f := 16) rfl ?_ rfl (hoffs) (fun _ _ h => h) ?_ ?_ ?_; (focus kernel_rfl))
          | (refine AWL.callV (f := 12) rfl rfl rfl rfl ?_ (Nat.le_of_ble_eq_true rfl) rfl (hwidth1) ?_; (focus kernel_rfl))
          | (refine AWL.call (f := 12) rfl rfl rfl ?_ rfl (Nat.le_of_ble_eq_true rfl) rfl (hwidth1) ?_; (focus kernel_rfl))
          | (refine CWr.call (f := 12) rfl ?_ rfl (hwidth1) (fun _ _ h => h) ?_ ?_ ?_; (focus kernel_rfl))
          | (refine AWL.callV (f := 12) rfl rfl rfl rfl ?_ (Nat.le_of_ble_eq_true rfl) rfl (hwidth2) ?_; (focus kernel_rfl))
          | (refine AWL.call (f := 12) rfl rfl rfl ?_ rfl (Nat.le_of_ble_eq_true rfl) rfl (hwidth2) ?_; (focus kernel_rfl))
          | (refine CWr.call (f := 12) rfl ?_ rfl (hwidth2) (fun _ _ h => h) ?_ ?_ ?_; (focus kernel_rfl))
          | (refine AWL.callV (f := 14) rfl rfl rfl rfl ?_ (Nat.le_of_ble_eq_true rfl) rfl (hsame) ?_; (focus kernel_rfl))
          | (refine AWL.call (f := 14) rfl rfl rfl ?_ rfl (Nat.le_of_ble_eq_true rfl) rfl (hsame) ?_; (focus kernel_rfl))
          | (refine CWr.call (f := 14) rfl ?_ rfl (hsame) (fun _ _ h => h) ?_ ?_ ?_; (focus kernel_rfl))
          | (refine AWL.callV (f := 22) rfl rfl rfl rfl ?_ (Nat.le_of_ble_eq_true rfl) rfl (split_ok _ hv1 hv2) ?_; (focus kernel_rfl))
          | (refine AWL.call (f := 22) rfl rfl rfl ?_ rfl (Nat.le_of_ble_eq_true rfl) rfl (split_ok _ hv1 hv2) ?_; (focus kernel_rfl))
          | (refine CWr.call (f := 22) rfl ?_ rfl (split_ok _ hv1 hv2) (fun _ _ h => h) ?_ ?_ ?_; (focus kernel_rfl))
          | fail) <;> (try ((first | show AWL _ _ _ _ _ | show AW _ _ _ _ | show FW _ _ _ _ _ _ _ _ _ _ | show CW _ _ _ _ _ _ _ _ _ _ _ _ | (rintro _ _ ⟨rfl, rfl⟩; (try refine And.intro rfl ?_))); (try (conv => arg -1; simp (disch := omega) only [NSX, Nat.reduceBEq, Nat.reduceAdd, Nat.reduceMul, Int.reduceToNat, Nat.reduceSub, TY, slx, take16, drop16, dz, nums_length, B9, B14, e7, bne_self_eq_false])))))
        | ((first | refine AWL.guard2 rfl rfl rfl rfl rfl rfl ?_ ?_ | refine CW.guard2 rfl rfl rfl rfl rfl rfl rfl rfl ?_ ?_) <;> (intro hc; (try simp only [Bool.not_true, Bool.not_false] at hc); first | (cases hc; done) | ((try simp only [hc]); (try simp only [beq_iff_eq, bne_iff_ne, decide_eq_true_eq, decide_eq_false_iff_not, beq_eq_false_iff_ne, bne_eq_false_iff_eq, ne_eq, Bool.not_eq_true, Bool.not_eq_false, Bool.not_eq_eq_eq_not, Bool.not_true, Bool.not_false, Decidable.not_not, Int.not_lt, Int.not_le] at hc); (try (exfalso; omega)); (try (guard_hyp hc : True; clear hc)))) <;> (try (first | (with_reducible show AWL _ _ _ _ (St.put _ _ _)) | (with_reducible show CW _ _ _ _ _ _ _ _ _ _ _ (St.put _ _ _))); (try (conv => arg -1; simp (disch := omega) only [NSX, Nat.reduceBEq, Nat.reduceAdd, Nat.reduceMul, Int.reduceToNat, Nat.reduceSub, TY, slx, take16, drop16, dz, nums_length, B9, B14, e7, bne_self_eq_false]))))
        | (refine AWL.guard2 rfl rfl rfl rfl rfl rfl (fun hc => ?_) ?_; (cases hc; done))
        | ((first | ((show AW _ (.region _ _ true) _ _); refine AW.calm false [] [] hmix (by (repeat' (first | exact panOk_end | exact panOk_endM | refine panOk_then ?_ | refine panOk_block ?_ | refine QEq.pan (by assumption) ?_))) ?_ rfl ?_; (focus (as_aux_lemma => kernel_rfl))) | refine AWL.guardU rfl rfl rfl rfl rfl rfl ?_ | refine CW.guardU rfl rfl rfl rfl rfl rfl rfl rfl ?_); (try (conv => arg -1; simp (disch := omega) only [NSX, Nat.reduceBEq, Nat.reduceAdd, Nat.reduceMul, Int.reduceToNat, Nat.reduceSub, TY, slx, take16, drop16, dz, nums_length, B9, B14, e7, bne_self_eq_false])))
        | refine CW.tail rfl ?_
        | (refine AW.cond rfl (fun hc => ?_) (fun hc => ?_) <;> first | (cases hc; done) | ((try simp only [beq_iff_eq, bne_iff_ne, decide_eq_true_eq, decide_eq_false_iff_not, beq_eq_false_iff_ne, bne_eq_false_iff_eq, ne_eq, Bool.not_eq_true, Bool.not_eq_false, Bool.not_eq_eq_eq_not, Bool.not_true, Bool.not_false, Decidable.not_not, Int.not_lt, Int.not_le] at hc); (try (exfalso; omega)); (try (guard_hyp hc : True; clear hc))))
        | ((refine EndQ.mk rfl rfl rfl ?_ ?_ ?_; (focus (first | exact Or.inl rfl | exact Or.inr rfl))) <;> (try simp (disch := omega) only [NSX, Nat.reduceBEq, Nat.reduceAdd, Nat.reduceMul, Int.reduceToNat, Nat.reduceSub, TY, slx, take16, drop16, dz, nums_length, B9, B14, e7, bne_self_eq_false]))
        | (focus ((first | exact trivial | omega | (refine And.intro (by kernel_rfl) (And.intro ⟨_, (by first | exact nums_ints _ _ | rfl), (by first | exact nums_ints _ _ | rfl)⟩ (And.intro ?_ ?_)) <;> (first | rfl | assumption | (simp only [nums_length]; omega) | omega)) | (refine And.intro ?_ (And.intro ?_ ?_); (focus kernel_rfl); (focus kernel_rfl); (focus kernel_rfl)) | ((show newKs _ _ _ = true); kernel_rfl) | ((show FitV _ _ _ _ _ _); (repeat' (first | exact trivial | exact Or.inr (Or.inl rfl) | exact Or.inl rfl | exact Or.inr (Or.inr rfl) | refine And.intro ?_ ?_)); done) | assumption | ((first | refine ld_nums i3 _ _ ?_ | refine ld_nums i52 _ _ ?_ | refine ld_nums i5 _ _ ?_ | refine at_nums i3 _ _ ?_ | refine at_nums i52 _ _ ?_ | refine at_nums i5 _ _ ?_); first | assumption | omega | (simp only [List.length_append]; omega)) | (show _ ≤ _; omega) | (simp only [List.length_take, List.length_drop, List.length_append, List.length_cons, List.length_nil]; omega) | ((repeat' (first | exact trivial | exact rfl | exact Nat.le_of_ble_eq_true rfl | refine And.intro ?_ ?_ | fail)); done) | ((try simp (disch := omega) only [NSX, Nat.reduceBEq, Nat.reduceAdd, Nat.reduceMul, Int.reduceToNat, Nat.reduceSub, TY, slx, take16, drop16, dz, nums_length, B9, B14, e7, bne_self_eq_false]); (repeat' (first | exact trivial | exact rfl | exact ⟨_, _, rfl⟩ | exact ⟨_, rfl⟩ | exact Nat.le_of_ble_eq_true rfl | exact Nat.zero_lt_succ _ | omega | (simp only [nums_length, toB_len] at *; omega) | refine And.intro ?_ ?_ | fail)); done)); done))
        | fail)
      all_goals try simp (disch := omega) only [NSX, Nat.reduceBEq, Nat.reduceAdd, Nat.reduceMul, Int.reduceToNat, Nat.reduceSub, TY, slx, take16, drop16, dz, nums_length, B9, B14, e7]
      all_goals first
        | exact ⟨X.length - (i + 1), by omega, i + 1, rfl, by omega, rfl⟩
        | (exfalso; omega) | trace_state
    · have hchk : True := by simp only [TY, slx, take16, drop16, dz, nums_length, B9, B14, hXt, hIt, hIX, eq_self, decide_true, bne_self_eq_false, Bool.not_true]
      repeat' (first
        | (refine AWL.opN (sl := SL) rfl rfl rfl trivial ?_; (try (conv => arg -1; simp (disch := omega) only [NSX, Nat.reduceBEq, Nat.reduceAdd, Nat.reduceMul, Int.reduceToNat, Nat.reduceSub, TY, slx, take16, drop16, dz, nums_length, B9, B14, hXt, hIt, hIX, eq_self, decide_true, bne_self_eq_false, Bool.not_true])))
        | (refine AW.seqQ ?_; intro Qn hQn)
        | (refine AW.blockQ ?_; intro Qn hQn)
        | refine AW.region ?_
        | ((first | refine AW.skip ?_ | refine AW.ret ?_ | refine AW.exit ?_ | refine AWL.nil ?_ | refine CW.nil ?_); (repeat (first | refine QEq.mp (by assumption) ?_ | simp only [thenQ, Go.Abs.blockQ, ↓reduceIte, Nat.reduceEqDiff])))
        | refine FW.nil ?_
        | refine FW.pass rfl rfl ?_
        | refine FW.go rfl ?_
        | refine CW.skip rfl rfl ?_
        | refine CW.step rfl rfl rfl rfl rfl ?_
        | ((first
          | (refine AWL.boxF (t := 57) rfl rfl rfl rfl rfl ?_)
          | (refine AWL.allocF (t := 57) rfl rfl rfl rfl rfl rfl ?_)
          | (refine CWr.allocF (t := 57) rfl rfl rfl ?_ ?_)
          | (refine AWL.op (sl := SL) rfl rfl ?_ ?_)
          | (refine FW.float rfl rfl rfl rfl rfl ?_)
          | (refine CWr.op rfl ?_ ?_ ?_)
          | (refine CWr.assign rfl ?_ ?_)
          | (refine CWr.alloc rfl rfl rfl rfl ?_)
          | (refine CWr.build rfl rfl rfl rfl ?_ rfl rfl rfl ?_)
          | ((show AWL _ _ ({ dst := _, op := _, type := _, pos := _, after := _, guard := none } :: _) _ _); refine AWL.frzA rfl rfl ?_)
          | (refine AWL.callV (f := 9) rfl rfl rfl rfl ?_ (Nat.le_of_ble_eq_true rfl) rfl (awake_ok) ?_; (focus kernel_rfl))
          | (refine AWL.call (f := 9) rfl rfl rfl ?_ rfl (Nat.le_of_ble_eq_true rfl) rfl (awake_ok) ?_; (focus kernel_rfl))
          | (refine CWr.call (f := 9) rfl ?_ rfl (awake_ok) (fun _ _ h => h) ?_ ?_ ?_; (focus kernel_rfl))
          | (refine AWL.callV (f := 21) rfl rfl rfl rfl ?_ (Nat.le_of_ble_eq_true rfl) rfl (hput1) ?_; (focus kernel_rfl))
          | (refine AWL.call (f := 21) rfl rfl rfl ?_ rfl (Nat.le_of_ble_eq_true rfl) rfl (hput1) ?_; (focus kernel_rfl))
          | (refine CWr.call (f := 21) rfl ?_ rfl (hput1) (fun _ _ h => h) ?_ ?_ ?_; (focus kernel_rfl))
          | (refine AWL.callV (f := 21) rfl rfl rfl rfl ?_ (Nat.le_of_ble_eq_true rfl) rfl (hput2) ?_; (focus kernel_rfl))
          | (refine AWL.call (f := 21) rfl rfl rfl ?_ rfl (Nat.le_of_ble_eq_true rfl) rfl (hput2) ?_; (focus kernel_rfl))
          | (refine CWr.call (f := 21) rfl ?_ rfl (hput2) (fun _ _ h => h) ?_ ?_ ?_; (focus kernel_rfl))
          | (refine AWL.callV (f := 23) rfl rfl rfl rfl ?_ (Nat.le_of_ble_eq_true rfl) rfl (htake) ?_; (focus kernel_rfl))
          | (refine AWL.call (f := 23) rfl rfl rfl ?_ rfl (Nat.le_of_ble_eq_true rfl) rfl (htake) ?_; (focus kernel_rfl))
          | (refine CWr.call (f := 23) rfl ?_ rfl (htake) (fun _ _ h => h) ?_ ?_ ?_; (focus kernel_rfl))
          | (refine AWL.callV (f := 15) rfl rfl rfl rfl ?_ (Nat.le_of_ble_eq_true rfl) rfl (htypes1) ?_; (focus kernel_rfl))
          | (refine AWL.call (f := 15) rfl rfl rfl ?_ rfl (Nat.le_of_ble_eq_true rfl) rfl (htypes1) ?_; (focus kernel_rfl))
          | (refine CWr.call (f := 15) rfl ?_ rfl (htypes1) (fun _ _ h => h) ?_ ?_ ?_; (focus kernel_rfl))
          | (refine AWL.callV (f := 15) rfl rfl rfl rfl ?_ (Nat.le_of_ble_eq_true rfl) rfl (htypes2) ?_; (focus kernel_rfl))
          | (refine AWL.call (f := 15) rfl rfl rfl ?_ rfl (Nat.le_of_ble_eq_true rfl) rfl (htypes2) ?_; (focus kernel_rfl))
          | (refine CWr.call (f := 15) rfl ?_ rfl (htypes2) (fun _ _ h => h) ?_ ?_ ?_; (focus kernel_rfl))
          | (refine AWL.callV (f := 16) rfl rfl rfl rfl ?_ (Nat.le_of_ble_eq_true rfl) rfl (hoffs) ?_; (focus kernel_rfl))
          | (refine AWL.call (f := 16) rfl rfl rfl ?_ rfl (Nat.le_of_ble_eq_true rfl) rfl (hoffs) ?_; (focus kernel_rfl))
          | (refine CWr.call (f := 16) rfl ?_ rfl (hoffs) (fun _ _ h => h) ?_ ?_ ?_; (focus kernel_rfl))
          | (refine AWL.callV (f := 12) rfl rfl rfl rfl ?_ (Nat.le_of_ble_eq_true rfl) rfl (hwidth1) ?_; (focus kernel_rfl))
          | (refine AWL.call (f := 12) rfl rfl rfl ?_ rfl (Nat.le_of_ble_eq_true rfl) rfl (hwidth1) ?_; (focus kernel_rfl))
          | (refine CWr.call (f := 12) rfl ?_ rfl (hwidth1) (fun _ _ h => h) ?_ ?_ ?_; (focus kernel_rfl))
          | (refine AWL.callV (f := 12) rfl rfl rfl rfl ?_ (Nat.le_of_ble_eq_true rfl) rfl (hwidth2) ?_; (focus kernel_rfl))
          | (refine AWL.call (f := 12) rfl rfl rfl ?_ rfl (Nat.le_of_ble_eq_true rfl) rfl (hwidth2) ?_; (focus kernel_rfl))
          | (refine CWr.call (f := 12) rfl ?_ rfl (hwidth2) (fun _ _ h => h) ?_ ?_ ?_; (focus kernel_rfl))
          | (refine AWL.callV (f := 14) rfl rfl rfl rfl ?_ (Nat.le_of_ble_eq_true rfl) rfl (hsame) ?_; (focus kernel_rfl))
          | (refine AWL.call (f := 14) rfl rfl rfl ?_ rfl (Nat.le_of_ble_eq_true rfl) rfl (hsame) ?_; (focus kernel_rfl))
          | (refine CWr.call (f := 14) rfl ?_ rfl (hsame) (fun _ _ h => h) ?_ ?_ ?_; (focus kernel_rfl))
          | (refine AWL.callV (f := 22) rfl rfl rfl rfl ?_ (Nat.le_of_ble_eq_true rfl) rfl (split_ok _ hv1 hv2) ?_; (focus kernel_rfl))
          | (refine AWL.call (f := 22) rfl rfl rfl ?_ rfl (Nat.le_of_ble_eq_true rfl) rfl (split_ok _ hv1 hv2) ?_; (focus kernel_rfl))
          | (refine CWr.call (f := 22) rfl ?_ rfl (split_ok _ hv1 hv2) (fun _ _ h => h) ?_ ?_ ?_; (focus kernel_rfl))
          | fail) <;> (try ((first | show AWL _ _ _ _ _ | show AW _ _ _ _ | show FW _ _ _ _ _ _ _ _ _ _ | show CW _ _ _ _ _ _ _ _ _ _ _ _ | (rintro _ _ ⟨rfl, rfl⟩; (try refine And.intro rfl ?_))); (try (conv => arg -1; simp (disch := omega) only [NSX, Nat.reduceBEq, Nat.reduceAdd, Nat.reduceMul, Int.reduceToNat, Nat.reduceSub, TY, slx, take16, drop16, dz, nums_length, B9, B14, hXt, hIt, hIX, eq_self, decide_true, bne_self_eq_false, Bool.not_true])))))
        | ((first | refine AWL.guard2 rfl rfl rfl rfl rfl rfl ?_ ?_ | refine CW.guard2 rfl rfl rfl rfl rfl rfl rfl rfl ?_ ?_) <;> (intro hc; (try simp only [Bool.not_true, Bool.not_false] at hc); first | (cases hc; done) | ((try simp only [hc]); (try simp only [beq_iff_eq, bne_iff_ne, decide_eq_true_eq, decide_eq_false_iff_not, beq_eq_false_iff_ne, bne_eq_false_iff_eq, ne_eq, Bool.not_eq_true, Bool.not_eq_false, Bool.not_eq_eq_eq_not, Bool.not_true, Bool.not_false, Decidable.not_not, Int.not_lt, Int.not_le] at hc); (try (exfalso; omega)); (try (guard_hyp hc : True; clear hc)))) <;> (try (first | (with_reducible show AWL _ _ _ _ (St.put _ _ _)) | (with_reducible show CW _ _ _ _ _ _ _ _ _ _ _ (St.put _ _ _))); (try (conv => arg -1; simp (disch := omega) only [NSX, Nat.reduceBEq, Nat.reduceAdd, Nat.reduceMul, Int.reduceToNat, Nat.reduceSub, TY, slx, take16, drop16, dz, nums_length, B9, B14, hXt, hIt, hIX, eq_self, decide_true, bne_self_eq_false, Bool.not_true]))))
        | (refine AWL.guard2 rfl rfl rfl rfl rfl rfl (fun hc => ?_) ?_; (cases hc; done))
        | ((first | ((show AW _ (.region _ _ true) _ _); refine AW.calm false [] [] hmix (by (repeat' (first | exact panOk_end | exact panOk_endM | refine panOk_then ?_ | refine panOk_block ?_ | refine QEq.pan (by assumption) ?_))) ?_ rfl ?_; (focus (as_aux_lemma => kernel_rfl))) | refine AWL.guardU rfl rfl rfl rfl rfl rfl ?_ | refine CW.guardU rfl rfl rfl rfl rfl rfl rfl rfl ?_); (try (conv => arg -1; simp (disch := omega) only [NSX, Nat.reduceBEq, Nat.reduceAdd, Nat.reduceMul, Int.reduceToNat, Nat.reduceSub, TY, slx, take16, drop16, dz, nums_length, B9, B14, hXt, hIt, hIX, eq_self, decide_true, bne_self_eq_false, Bool.not_true])))
        | refine CW.tail rfl ?_
        | (refine AW.cond rfl (fun hc => ?_) (fun hc => ?_) <;> first | (cases hc; done) | ((try simp only [beq_iff_eq, bne_iff_ne, decide_eq_true_eq, decide_eq_false_iff_not, beq_eq_false_iff_ne, bne_eq_false_iff_eq, ne_eq, Bool.not_eq_true, Bool.not_eq_false, Bool.not_eq_eq_eq_not, Bool.not_true, Bool.not_false, Decidable.not_not, Int.not_lt, Int.not_le] at hc); (try (exfalso; omega)); (try (guard_hyp hc : True; clear hc))))
        | ((refine EndQ.mk rfl rfl rfl ?_ ?_ ?_; (focus (first | exact Or.inl rfl | exact Or.inr rfl))) <;> (try simp (disch := omega) only [NSX, Nat.reduceBEq, Nat.reduceAdd, Nat.reduceMul, Int.reduceToNat, Nat.reduceSub, TY, slx, take16, drop16, dz, nums_length, B9, B14, hXt, hIt, hIX, eq_self, decide_true, bne_self_eq_false, Bool.not_true]))
        | (focus ((first | exact trivial | omega | (refine And.intro (by kernel_rfl) (And.intro ⟨_, (by first | exact nums_ints _ _ | rfl), (by first | exact nums_ints _ _ | rfl)⟩ (And.intro ?_ ?_)) <;> (first | rfl | assumption | (simp only [nums_length]; omega) | omega)) | (refine And.intro ?_ (And.intro ?_ ?_); (focus kernel_rfl); (focus kernel_rfl); (focus kernel_rfl)) | ((show newKs _ _ _ = true); kernel_rfl) | ((show FitV _ _ _ _ _ _); (repeat' (first | exact trivial | exact Or.inr (Or.inl rfl) | exact Or.inl rfl | exact Or.inr (Or.inr rfl) | refine And.intro ?_ ?_)); done) | assumption | ((first | refine ld_nums i3 _ _ ?_ | refine ld_nums i52 _ _ ?_ | refine ld_nums i5 _ _ ?_ | refine at_nums i3 _ _ ?_ | refine at_nums i52 _ _ ?_ | refine at_nums i5 _ _ ?_); first | assumption | omega | (simp only [List.length_append]; omega)) | (show _ ≤ _; omega) | (simp only [List.length_take, List.length_drop, List.length_append, List.length_cons, List.length_nil]; omega) | ((repeat' (first | exact trivial | exact rfl | exact Nat.le_of_ble_eq_true rfl | refine And.intro ?_ ?_ | fail)); done) | ((try simp (disch := omega) only [NSX, Nat.reduceBEq, Nat.reduceAdd, Nat.reduceMul, Int.reduceToNat, Nat.reduceSub, TY, slx, take16, drop16, dz, nums_length, B9, B14, hXt, hIt, hIX, eq_self, decide_true, bne_self_eq_false, Bool.not_true]); (repeat' (first | exact trivial | exact rfl | exact ⟨_, _, rfl⟩ | exact ⟨_, rfl⟩ | exact Nat.le_of_ble_eq_true rfl | exact Nat.zero_lt_succ _ | omega | (simp only [nums_length, toB_len] at *; omega) | refine And.intro ?_ ?_ | fail)); done)); done))
        | fail)
      all_goals first | exact ⟨trivial, trivial⟩ | exact ⟨rfl, trivial⟩ | exact ⟨rfl, rfl⟩ | exact ⟨trivial, rfl⟩ | (exfalso; omega) | trace_state
theorem splitBack_ok (ts : List Int) (vs : List (List Int)) (hv : vecs vs) (hlen : ts.length ≤ 1048576) :
    AC Try.prog 8 [.view ts.length 1 (nums .i64 ts), .view vs.length 16 (vecC vs)] (fun r m => r = .bool true ∧ m = []) := by
  by_cases h : okTs ts = true ∧ ts.length = vs.length
  · exact splitBack_yes ts vs hv hlen h.1 h.2
  · exact splitBack_no ts vs hv hlen h
end Go.Proofs.Ytbdmieljkgcpcaa
