/- PairBack. -/
import Derived.Test.YtopdealfmajbhaaV5
import Derived.Test.YtopdealfmajbhaaAwake
import Derived.Test.YtopdealfmajbhaaTake
import Derived.Test.YtopdealfmajbhaaCutl
namespace Go.Proofs.Ytopdealfmajbhaa
set_option linter.unusedSimpArgs false
set_option linter.unusedVariables false
open Go Go.Abs
attribute [local irreducible] AW AWL AC FW CW CWr IntKind.wrap

theorem take_at (n m : Nat) (ts hs : List Int) (hn : n = ts.length) (hm : m = hs.length) (hh : u64s hs) (hlen : ts.length ≤ 1048576) : AC Try.prog 30 [.view n 1 (nums .i64 ts), .view m 1 (nums .u64 hs)]
    (fun r m => r = .tup [.ref 4 0 (takeR ts hs []).1.length 16, .int .i64 (takeR ts hs []).2] ∧ m = [(4, vecC (takeR ts hs []).1)]) := by
  subst hn; subst hm; exact take_ok ts hs hh hlen
def B1 (ts : List Int) (vs : List (List Int)) (x : List Int) (e n i : Int) : St := { n := 160, slots := [(0, .view ts.length 1 (nums .i64 ts)), (1, .view vs.length 16 (vecC vs)), (5, .ref 5 0 x.length 1), (6, .int .i64 e), (7, .int .i64 n), (8, .int .i64 i)], mem := [(5, ⟨true, nums .u64 x⟩)] }
def B2 (ts : List Int) (vs : List (List Int)) (x : List Int) (o : List (List Int)) (n i : Int) : St := { n := 160, slots := [(0, .view ts.length 1 (nums .i64 ts)), (1, .view vs.length 16 (vecC vs)), (5, .view x.length 1 (nums .u64 x)), (7, .int .i64 n), (11, .ref 11 0 vs.length 16), (12, .int .i64 i)], mem := [(11, ⟨true, vecC o⟩)] }
set_option maxRecDepth 8000 in
set_option maxHeartbeats 12800000 in
theorem pairBack_bad (ts : List Int) (vs : List (List Int)) (hv : vecs vs) (hlen : ts.length ≤ 1048576) (hbad : okTs ts = false) :
    AC Try.prog 8 [.view ts.length 1 (nums .i64 ts), .view vs.length 16 (vecC vs)] (fun r m => r = .bool true ∧ m = []) := by
  have hput := put_ok ts vs hv hlen
  rw [put_not ts vs (fun h => by rw [hbad] at h; cases h.1)] at hput
  have hT0 : takeR ts [] [] = ([], 1) := take_not ts [] (fun h => by rw [hbad] at h; cases h.1)
  have hv1 : True := trivial
  have hv2 : True := trivial
  have hof32 : True := trivial
  have hof64 : True := trivial
  have hu0 : u64s [] := by intro x hx; cases hx
  have htake0 : AC Try.prog 30 [.view ts.length 1 (nums .i64 ts), .view 0 1 []] (fun r m => r = .tup [.ref 4 0 (takeR ts [] []).1.length 16, .int .i64 (takeR ts [] []).2] ∧ m = [(4, vecC (takeR ts [] []).1)]) := take_at ts.length 0 ts [] rfl rfl hu0 hlen
  rw [hT0] at htake0
  have hu1 : True := trivial
  have hu2 : True := trivial
  have hu3 : True := trivial
  refine AC.enter Try.func8 rfl (Nat.le_of_ble_eq_true rfl) ?_
  simp only [Try.f8]
  have hchk : True := by simp only [TY, slx, take16, drop16, dz, nums_length, B1, B2]
  repeat' (first
    | (refine AWL.opN (sl := SL) rfl rfl rfl trivial ?_; (try (conv => arg -1; simp (disch := omega) only [NSX, Nat.reduceBEq, Nat.reduceAdd, Nat.reduceMul, Int.reduceToNat, Nat.reduceSub, TY, slx, take16, drop16, dz, nums_length, B1, B2])))
    | (refine AW.seqQ ?_; intro Qn hQn)
    | (refine AW.blockQ ?_; intro Qn hQn)
    | refine AW.region ?_
    | ((first | refine AW.skip ?_ | refine AW.ret ?_ | refine AW.exit ?_ | refine AWL.nil ?_ | refine CW.nil ?_); (repeat (first | refine QEq.mp (by assumption) ?_ | simp only [thenQ, Go.Abs.blockQ, ↓reduceIte, Nat.reduceEqDiff])))
    | refine FW.nil ?_
    | refine FW.pass rfl rfl ?_
    | refine FW.go rfl ?_
    | refine CW.skip rfl rfl ?_
    | refine CW.step rfl rfl rfl rfl rfl ?_
    | ((first
      | (refine AWL.boxF (t := 25) rfl rfl rfl rfl rfl ?_)
      | (refine AWL.allocF (t := 25) rfl rfl rfl rfl rfl rfl ?_)
      | (refine CWr.allocF (t := 25) rfl rfl rfl ?_ ?_)
      | (refine AWL.op (sl := SL) rfl rfl ?_ ?_)
      | (refine FW.float rfl rfl rfl rfl rfl ?_)
      | (refine CWr.op rfl ?_ ?_ ?_)
      | (refine CWr.assign rfl ?_ ?_)
      | (refine CWr.alloc rfl rfl rfl rfl ?_)
      | (refine CWr.build rfl rfl rfl rfl ?_ rfl rfl rfl ?_)
      | ((show AWL _ _ ({ dst := _, op := _, type := _, pos := _, after := _, guard := none } :: _) _ _); refine AWL.frzA rfl rfl ?_)
      | (refine AWL.callV (f := 10) rfl rfl rfl rfl ?_ (Nat.le_of_ble_eq_true rfl) rfl (awake_ok) ?_; (focus kernel_rfl))
      | (refine AWL.call (f := 10) rfl rfl rfl ?_ rfl (Nat.le_of_ble_eq_true rfl) rfl (awake_ok) ?_; (focus kernel_rfl))
      | (refine CWr.call (f := 10) rfl ?_ rfl (awake_ok) (fun _ _ h => h) ?_ ?_ ?_; (focus kernel_rfl))
      | (refine AWL.callV (f := 28) rfl rfl rfl rfl ?_ (Nat.le_of_ble_eq_true rfl) rfl (hput) ?_; (focus kernel_rfl))
      | (refine AWL.call (f := 28) rfl rfl rfl ?_ rfl (Nat.le_of_ble_eq_true rfl) rfl (hput) ?_; (focus kernel_rfl))
      | (refine CWr.call (f := 28) rfl ?_ rfl (hput) (fun _ _ h => h) ?_ ?_ ?_; (focus kernel_rfl))
      | (refine AWL.callV (f := 30) rfl rfl rfl rfl ?_ (Nat.le_of_ble_eq_true rfl) rfl (htake0) ?_; (focus kernel_rfl))
      | (refine AWL.call (f := 30) rfl rfl rfl ?_ rfl (Nat.le_of_ble_eq_true rfl) rfl (htake0) ?_; (focus kernel_rfl))
      | (refine CWr.call (f := 30) rfl ?_ rfl (htake0) (fun _ _ h => h) ?_ ?_ ?_; (focus kernel_rfl))
      | (refine AWL.callV (f := 30) rfl rfl rfl rfl ?_ (Nat.le_of_ble_eq_true rfl) rfl (take_at _ _ _ _ ?_ ?_ ?_ hlen) ?_; (focus kernel_rfl))
      | (refine AWL.call (f := 30) rfl rfl rfl ?_ rfl (Nat.le_of_ble_eq_true rfl) rfl (take_at _ _ _ _ ?_ ?_ ?_ hlen) ?_; (focus kernel_rfl))
      | (refine CWr.call (f := 30) rfl ?_ rfl (take_at _ _ _ _ ?_ ?_ ?_ hlen) (fun _ _ h => h) ?_ ?_ ?_; (focus kernel_rfl))
      | (refine AWL.callV (f := 16) rfl rfl rfl rfl ?_ (Nat.le_of_ble_eq_true rfl) rfl (get_ok _ hv1 hv2 _ _) ?_; (focus kernel_rfl))
      | (refine AWL.call (f := 16) rfl rfl rfl ?_ rfl (Nat.le_of_ble_eq_true rfl) rfl (get_ok _ hv1 hv2 _ _) ?_; (focus kernel_rfl))
      | (refine CWr.call (f := 16) rfl ?_ rfl (get_ok _ hv1 hv2 _ _) (fun _ _ h => h) ?_ ?_ ?_; (focus kernel_rfl))
      | (refine AWL.callV (f := 11) rfl rfl rfl rfl ?_ (Nat.le_of_ble_eq_true rfl) rfl (hof32) ?_; (focus kernel_rfl))
      | (refine AWL.call (f := 11) rfl rfl rfl ?_ rfl (Nat.le_of_ble_eq_true rfl) rfl (hof32) ?_; (focus kernel_rfl))
      | (refine CWr.call (f := 11) rfl ?_ rfl (hof32) (fun _ _ h => h) ?_ ?_ ?_; (focus kernel_rfl))
      | (refine AWL.callV (f := 11) rfl rfl rfl rfl ?_ (Nat.le_of_ble_eq_true rfl) rfl (hof64) ?_; (focus kernel_rfl))
      | (refine AWL.call (f := 11) rfl rfl rfl ?_ rfl (Nat.le_of_ble_eq_true rfl) rfl (hof64) ?_; (focus kernel_rfl))
      | (refine CWr.call (f := 11) rfl ?_ rfl (hof64) (fun _ _ h => h) ?_ ?_ ?_; (focus kernel_rfl))
      | fail) <;> (try ((first | show AWL _ _ _ _ _ | show AW _ _ _ _ | show FW _ _ _ _ _ _ _ _ _ _ | show CW _ _ _ _ _ _ _ _ _ _ _ _ | (rintro _ _ ⟨rfl, rfl⟩; (try refine And.intro rfl ?_))); (try (conv => arg -1; simp (disch := omega) only [NSX, Nat.reduceBEq, Nat.reduceAdd, Nat.reduceMul, Int.reduceToNat, Nat.reduceSub, TY, slx, take16, drop16, dz, nums_length, B1, B2])))))
    | ((first | refine AWL.guard2 rfl rfl rfl rfl rfl rfl ?_ ?_ | refine CW.guard2 rfl rfl rfl rfl rfl rfl rfl rfl ?_ ?_) <;> (intro hc; (try simp only [Bool.not_true, Bool.not_false] at hc); first | (cases hc; done) | ((try simp only [hc]); (try simp only [beq_iff_eq, bne_iff_ne, decide_eq_true_eq, decide_eq_false_iff_not, beq_eq_false_iff_ne, bne_eq_false_iff_eq, ne_eq, Bool.not_eq_true, Bool.not_eq_false, Bool.not_eq_eq_eq_not, Bool.not_true, Bool.not_false, Decidable.not_not, Int.not_lt, Int.not_le] at hc); (try (exfalso; omega)); (try (guard_hyp hc : True; clear hc)))) <;> (try (first | (with_reducible show AWL _ _ _ _ (St.put _ _ _)) | (with_reducible show CW _ _ _ _ _ _ _ _ _ _ _ (St.put _ _ _))); (try (conv => arg -1; simp (disch := omega) only [NSX, Nat.reduceBEq, Nat.reduceAdd, Nat.reduceMul, Int.reduceToNat, Nat.reduceSub, TY, slx, take16, drop16, dz, nums_length, B1, B2]))))
    | (refine AWL.guard2 rfl rfl rfl rfl rfl rfl (fun hc => ?_) ?_; (cases hc; done))
    | ((first | ((show AW _ (.region _ _ true) _ _); refine AW.calm false [] [] hmix (by (repeat' (first | exact panOk_end | exact panOk_endM | refine panOk_then ?_ | refine panOk_block ?_ | refine QEq.pan (by assumption) ?_))) ?_ rfl ?_; (focus (as_aux_lemma => kernel_rfl))) | refine AWL.guardU rfl rfl rfl rfl rfl rfl ?_ | refine CW.guardU rfl rfl rfl rfl rfl rfl rfl rfl ?_); (try (conv => arg -1; simp (disch := omega) only [NSX, Nat.reduceBEq, Nat.reduceAdd, Nat.reduceMul, Int.reduceToNat, Nat.reduceSub, TY, slx, take16, drop16, dz, nums_length, B1, B2])))
    | refine CW.tail rfl ?_
    | (refine AW.cond rfl (fun hc => ?_) (fun hc => ?_) <;> first | (cases hc; done) | ((try simp only [beq_iff_eq, bne_iff_ne, decide_eq_true_eq, decide_eq_false_iff_not, beq_eq_false_iff_ne, bne_eq_false_iff_eq, ne_eq, Bool.not_eq_true, Bool.not_eq_false, Bool.not_eq_eq_eq_not, Bool.not_true, Bool.not_false, Decidable.not_not, Int.not_lt, Int.not_le] at hc); (try (exfalso; omega)); (try (guard_hyp hc : True; clear hc))))
    | ((refine EndQ.mk rfl rfl rfl ?_ ?_ ?_; (focus (first | exact Or.inl rfl | exact Or.inr rfl))) <;> (try simp (disch := omega) only [NSX, Nat.reduceBEq, Nat.reduceAdd, Nat.reduceMul, Int.reduceToNat, Nat.reduceSub, TY, slx, take16, drop16, dz, nums_length, B1, B2]))
    | (focus ((first | exact trivial | omega | (refine And.intro (by kernel_rfl) (And.intro ⟨_, (by first | exact nums_ints _ _ | rfl), (by first | exact nums_ints _ _ | rfl)⟩ (And.intro ?_ ?_)) <;> (first | rfl | assumption | (simp only [nums_length]; omega) | omega)) | (refine And.intro ?_ (And.intro ?_ ?_); (focus kernel_rfl); (focus kernel_rfl); (focus kernel_rfl)) | ((show newKs _ _ _ = true); kernel_rfl) | ((show FitV _ _ _ _ _ _); (repeat' (first | exact trivial | exact Or.inr (Or.inl rfl) | exact Or.inl rfl | exact Or.inr (Or.inr rfl) | refine And.intro ?_ ?_)); done) | assumption | ((first | refine ld_nums i3 _ _ ?_ | refine ld_nums i29 _ _ ?_ | refine ld_nums i5 _ _ ?_ | refine at_nums i3 _ _ ?_ | refine at_nums i29 _ _ ?_ | refine at_nums i5 _ _ ?_); first | assumption | omega | (simp only [List.length_append]; omega)) | (simp only [List.length_append, List.length_cons, List.length_nil, Nat.zero_add]; done) | exact hu0 | exact hu1 | exact hu2 | exact hu3 | (show _ ≤ _; omega) | (simp only [List.length_take, List.length_drop, List.length_append, List.length_cons, List.length_nil]; omega) | ((repeat' (first | exact trivial | exact rfl | exact Nat.le_of_ble_eq_true rfl | refine And.intro ?_ ?_ | fail)); done) | ((try simp (disch := omega) only [NSX, Nat.reduceBEq, Nat.reduceAdd, Nat.reduceMul, Int.reduceToNat, Nat.reduceSub, TY, slx, take16, drop16, dz, nums_length, B1, B2]); (repeat' (first | exact trivial | exact rfl | exact ⟨_, _, rfl⟩ | exact ⟨_, rfl⟩ | exact Nat.le_of_ble_eq_true rfl | exact Nat.zero_lt_succ _ | omega | (simp only [nums_length, toB_len] at *; omega) | refine And.intro ?_ ?_ | fail)); done)); done))
    | fail)
  refine AW.loop [0, 1, 5, 6, 7, 8] [5] (fun m st => ∃ k : Nat, st = B1 ts vs [] 1 (widthL (ts.take k) : Nat) k ∧ k ≤ ts.length ∧ m = ts.length - k ∧ okTs (ts.take k) = true) ?_ ?_
  · exact ⟨_, 0, rfl, Nat.zero_le _, rfl, rfl⟩
  rintro m st ⟨k, rfl, hk, rfl, ho⟩
  have e5 : IntKind.i64.wrap ((k : Int) + 1) = ((k + 1 : Nat) : Int) := wrap64_id _ (by omega) (by omega)
  have hwk := widthL_le (ts.take k)
  rw [List.length_take] at hwk
  by_cases hkn : k < ts.length
  · have hsn : widthL (ts.take (k + 1)) = widthL (ts.take k) + need (ts.getD k 0) := by rw [take_snoc _ _ hkn, widthL_snoc]
    have hos : need (ts.getD k 0) ≠ 0 → okTs (ts.take (k + 1)) = true := fun h => by rw [take_snoc _ _ hkn, okTs_snoc, ho, decide_eq_true h]; rfl
    rcases need_cases (ts.getD k 0) with h1 | h1 | h1 | ⟨h0, h1, h2, h3⟩
    · rw [h1] at hsn hos
      have e6 : IntKind.i64.wrap ((widthL (ts.take k) : Int) + 1) = (widthL (ts.take (k + 1)) : Nat) := by rw [hsn, show need 127 = 1 from rfl]; exact wrap64_id _ (by omega) (by omega)
      have hchk : True := by simp only [TY, slx, take16, drop16, dz, nums_length, B1, B2, e5, e6, h1]
      repeat' (first
        | (refine AWL.opN (sl := SL) rfl rfl rfl trivial ?_; (try (conv => arg -1; simp (disch := omega) only [NSX, Nat.reduceBEq, Nat.reduceAdd, Nat.reduceMul, Int.reduceToNat, Nat.reduceSub, TY, slx, take16, drop16, dz, nums_length, B1, B2, e5, e6, h1])))
        | (refine AW.seqQ ?_; intro Qn hQn)
        | (refine AW.blockQ ?_; intro Qn hQn)
        | refine AW.region ?_
        | ((first | refine AW.skip ?_ | refine AW.ret ?_ | refine AW.exit ?_ | refine AWL.nil ?_ | refine CW.nil ?_); (repeat (first | refine QEq.mp (by assumption) ?_ | simp only [thenQ, Go.Abs.blockQ, ↓reduceIte, Nat.reduceEqDiff])))
        | refine FW.nil ?_
        | refine FW.pass rfl rfl ?_
        | refine FW.go rfl ?_
        | refine CW.skip rfl rfl ?_
        | refine CW.step rfl rfl rfl rfl rfl ?_
        | ((first
          | (refine AWL.boxF (t := 25) rfl rfl rfl rfl rfl ?_)
          | (refine AWL.allocF (t := 25) rfl rfl rfl rfl rfl rfl ?_)
          | (refine CWr.allocF (t := 25) rfl rfl rfl ?_ ?_)
          | (refine AWL.op (sl := SL) rfl rfl ?_ ?_)
          | (refine FW.float rfl rfl rfl rfl rfl ?_)
          | (refine CWr.op rfl ?_ ?_ ?_)
          | (refine CWr.assign rfl ?_ ?_)
          | (refine CWr.alloc rfl rfl rfl rfl ?_)
          | (refine CWr.build rfl rfl rfl rfl ?_ rfl rfl rfl ?_)
          | ((show AWL _ _ ({ dst := _, op := _, type := _, pos := _, after := _, guard := none } :: _) _ _); refine AWL.frzA rfl rfl ?_)
          | (refine AWL.callV (f := 10) rfl rfl rfl rfl ?_ (Nat.le_of_ble_eq_true rfl) rfl (awake_ok) ?_; (focus kernel_rfl))
          | (refine AWL.call (f := 10) rfl rfl rfl ?_ rfl (Nat.le_of_ble_eq_true rfl) rfl (awake_ok) ?_; (focus kernel_rfl))
          | (refine CWr.call (f := 10) rfl ?_ rfl (awake_ok) (fun _ _ h => h) ?_ ?_ ?_; (focus kernel_rfl))
          | (refine AWL.callV (f := 28) rfl rfl rfl rfl ?_ (Nat.le_of_ble_eq_true rfl) rfl (hput) ?_; (focus kernel_rfl))
          | (refine AWL.call (f := 28) rfl rfl rfl ?_ rfl (Nat.le_of_ble_eq_true rfl) rfl (hput) ?_; (focus kernel_rfl))
          | (refine CWr.call (f := 28) rfl ?_ rfl (hput) (fun _ _ h => h) ?_ ?_ ?_; (focus kernel_rfl))
          | (refine AWL.callV (f := 30) rfl rfl rfl rfl ?_ (Nat.le_of_ble_eq_true rfl) rfl (htake0) ?_; (focus kernel_rfl))
          | (refine AWL.call (f := 30) rfl rfl rfl ?_ rfl (Nat.le_of_ble_eq_true rfl) rfl (htake0) ?_; (focus kernel_rfl))
          | (refine CWr.call (f := 30) rfl ?_ rfl (htake0) (fun _ _ h => h) ?_ ?_ ?_; (focus kernel_rfl))
          | (refine AWL.callV (f := 30) rfl rfl rfl rfl ?_ (Nat.le_of_ble_eq_true rfl) rfl (take_at _ _ _ _ ?_ ?_ ?_ hlen) ?_; (focus kernel_rfl))
          | (refine AWL.call (f := 30) rfl rfl rfl ?_ rfl (Nat.le_of_ble_eq_true rfl) rfl (take_at _ _ _ _ ?_ ?_ ?_ hlen) ?_; (focus kernel_rfl))
          | (refine CWr.call (f := 30) rfl ?_ rfl (take_at _ _ _ _ ?_ ?_ ?_ hlen) (fun _ _ h => h) ?_ ?_ ?_; (focus kernel_rfl))
          | (refine AWL.callV (f := 16) rfl rfl rfl rfl ?_ (Nat.le_of_ble_eq_true rfl) rfl (get_ok _ hv1 hv2 _ _) ?_; (focus kernel_rfl))
          | (refine AWL.call (f := 16) rfl rfl rfl ?_ rfl (Nat.le_of_ble_eq_true rfl) rfl (get_ok _ hv1 hv2 _ _) ?_; (focus kernel_rfl))
          | (refine CWr.call (f := 16) rfl ?_ rfl (get_ok _ hv1 hv2 _ _) (fun _ _ h => h) ?_ ?_ ?_; (focus kernel_rfl))
          | (refine AWL.callV (f := 11) rfl rfl rfl rfl ?_ (Nat.le_of_ble_eq_true rfl) rfl (hof32) ?_; (focus kernel_rfl))
          | (refine AWL.call (f := 11) rfl rfl rfl ?_ rfl (Nat.le_of_ble_eq_true rfl) rfl (hof32) ?_; (focus kernel_rfl))
          | (refine CWr.call (f := 11) rfl ?_ rfl (hof32) (fun _ _ h => h) ?_ ?_ ?_; (focus kernel_rfl))
          | (refine AWL.callV (f := 11) rfl rfl rfl rfl ?_ (Nat.le_of_ble_eq_true rfl) rfl (hof64) ?_; (focus kernel_rfl))
          | (refine AWL.call (f := 11) rfl rfl rfl ?_ rfl (Nat.le_of_ble_eq_true rfl) rfl (hof64) ?_; (focus kernel_rfl))
          | (refine CWr.call (f := 11) rfl ?_ rfl (hof64) (fun _ _ h => h) ?_ ?_ ?_; (focus kernel_rfl))
          | fail) <;> (try ((first | show AWL _ _ _ _ _ | show AW _ _ _ _ | show FW _ _ _ _ _ _ _ _ _ _ | show CW _ _ _ _ _ _ _ _ _ _ _ _ | (rintro _ _ ⟨rfl, rfl⟩; (try refine And.intro rfl ?_))); (try (conv => arg -1; simp (disch := omega) only [NSX, Nat.reduceBEq, Nat.reduceAdd, Nat.reduceMul, Int.reduceToNat, Nat.reduceSub, TY, slx, take16, drop16, dz, nums_length, B1, B2, e5, e6, h1])))))
        | ((first | refine AWL.guard2 rfl rfl rfl rfl rfl rfl ?_ ?_ | refine CW.guard2 rfl rfl rfl rfl rfl rfl rfl rfl ?_ ?_) <;> (intro hc; (try simp only [Bool.not_true, Bool.not_false] at hc); first | (cases hc; done) | ((try simp only [hc]); (try simp only [beq_iff_eq, bne_iff_ne, decide_eq_true_eq, decide_eq_false_iff_not, beq_eq_false_iff_ne, bne_eq_false_iff_eq, ne_eq, Bool.not_eq_true, Bool.not_eq_false, Bool.not_eq_eq_eq_not, Bool.not_true, Bool.not_false, Decidable.not_not, Int.not_lt, Int.not_le] at hc); (try (exfalso; omega)); (try (guard_hyp hc : True; clear hc)))) <;> (try (first | (with_reducible show AWL _ _ _ _ (St.put _ _ _)) | (with_reducible show CW _ _ _ _ _ _ _ _ _ _ _ (St.put _ _ _))); (try (conv => arg -1; simp (disch := omega) only [NSX, Nat.reduceBEq, Nat.reduceAdd, Nat.reduceMul, Int.reduceToNat, Nat.reduceSub, TY, slx, take16, drop16, dz, nums_length, B1, B2, e5, e6, h1]))))
        | (refine AWL.guard2 rfl rfl rfl rfl rfl rfl (fun hc => ?_) ?_; (cases hc; done))
        | ((first | ((show AW _ (.region _ _ true) _ _); refine AW.calm false [] [] hmix (by (repeat' (first | exact panOk_end | exact panOk_endM | refine panOk_then ?_ | refine panOk_block ?_ | refine QEq.pan (by assumption) ?_))) ?_ rfl ?_; (focus (as_aux_lemma => kernel_rfl))) | refine AWL.guardU rfl rfl rfl rfl rfl rfl ?_ | refine CW.guardU rfl rfl rfl rfl rfl rfl rfl rfl ?_); (try (conv => arg -1; simp (disch := omega) only [NSX, Nat.reduceBEq, Nat.reduceAdd, Nat.reduceMul, Int.reduceToNat, Nat.reduceSub, TY, slx, take16, drop16, dz, nums_length, B1, B2, e5, e6, h1])))
        | refine CW.tail rfl ?_
        | (refine AW.cond rfl (fun hc => ?_) (fun hc => ?_) <;> first | (cases hc; done) | ((try simp only [beq_iff_eq, bne_iff_ne, decide_eq_true_eq, decide_eq_false_iff_not, beq_eq_false_iff_ne, bne_eq_false_iff_eq, ne_eq, Bool.not_eq_true, Bool.not_eq_false, Bool.not_eq_eq_eq_not, Bool.not_true, Bool.not_false, Decidable.not_not, Int.not_lt, Int.not_le] at hc); (try (exfalso; omega)); (try (guard_hyp hc : True; clear hc))))
        | ((refine EndQ.mk rfl rfl rfl ?_ ?_ ?_; (focus (first | exact Or.inl rfl | exact Or.inr rfl))) <;> (try simp (disch := omega) only [NSX, Nat.reduceBEq, Nat.reduceAdd, Nat.reduceMul, Int.reduceToNat, Nat.reduceSub, TY, slx, take16, drop16, dz, nums_length, B1, B2, e5, e6, h1]))
        | (focus ((first | exact trivial | omega | (refine And.intro (by kernel_rfl) (And.intro ⟨_, (by first | exact nums_ints _ _ | rfl), (by first | exact nums_ints _ _ | rfl)⟩ (And.intro ?_ ?_)) <;> (first | rfl | assumption | (simp only [nums_length]; omega) | omega)) | (refine And.intro ?_ (And.intro ?_ ?_); (focus kernel_rfl); (focus kernel_rfl); (focus kernel_rfl)) | ((show newKs _ _ _ = true); kernel_rfl) | ((show FitV _ _ _ _ _ _); (repeat' (first | exact trivial | exact Or.inr (Or.inl rfl) | exact Or.inl rfl | exact Or.inr (Or.inr rfl) | refine And.intro ?_ ?_)); done) | assumption | ((first | refine ld_nums i3 _ _ ?_ | refine ld_nums i29 _ _ ?_ | refine ld_nums i5 _ _ ?_ | refine at_nums i3 _ _ ?_ | refine at_nums i29 _ _ ?_ | refine at_nums i5 _ _ ?_); first | assumption | omega | (simp only [List.length_append]; omega)) | (simp only [List.length_append, List.length_cons, List.length_nil, Nat.zero_add]; done) | exact hu0 | exact hu1 | exact hu2 | exact hu3 | (show _ ≤ _; omega) | (simp only [List.length_take, List.length_drop, List.length_append, List.length_cons, List.length_nil]; omega) | ((repeat' (first | exact trivial | exact rfl | exact Nat.le_of_ble_eq_true rfl | refine And.intro ?_ ?_ | fail)); done) | ((try simp (disch := omega) only [NSX, Nat.reduceBEq, Nat.reduceAdd, Nat.reduceMul, Int.reduceToNat, Nat.reduceSub, TY, slx, take16, drop16, dz, nums_length, B1, B2, e5, e6, h1]); (repeat' (first | exact trivial | exact rfl | exact ⟨_, _, rfl⟩ | exact ⟨_, rfl⟩ | exact Nat.le_of_ble_eq_true rfl | exact Nat.zero_lt_succ _ | omega | (simp only [nums_length, toB_len] at *; omega) | refine And.intro ?_ ?_ | fail)); done)); done))
        | fail)
      all_goals try simp (disch := omega) only [NSX, Nat.reduceBEq, Nat.reduceAdd, Nat.reduceMul, Int.reduceToNat, Nat.reduceSub, TY, slx, take16, drop16, dz, nums_length, B1, B2, e5, e6, h1]
      all_goals first
        | exact ⟨ts.length - (k + 1), by omega, k + 1, rfl, by omega, rfl, hos (by decide)⟩
        | (exfalso; omega) | trace_state
    · rw [h1] at hsn hos
      have e6 : IntKind.i64.wrap ((widthL (ts.take k) : Int) + 1) = (widthL (ts.take (k + 1)) : Nat) := by rw [hsn, show need 126 = 1 from rfl]; exact wrap64_id _ (by omega) (by omega)
      have hchk : True := by simp only [TY, slx, take16, drop16, dz, nums_length, B1, B2, e5, e6, h1]
      repeat' (first
        | (refine AWL.opN (sl := SL) rfl rfl rfl trivial ?_; (try (conv => arg -1; simp (disch := omega) only [NSX, Nat.reduceBEq, Nat.reduceAdd, Nat.reduceMul, Int.reduceToNat, Nat.reduceSub, TY, slx, take16, drop16, dz, nums_length, B1, B2, e5, e6, h1])))
        | (refine AW.seqQ ?_; intro Qn hQn)
        | (refine AW.blockQ ?_; intro Qn hQn)
        | refine AW.region ?_
        | ((first | refine AW.skip ?_ | refine AW.ret ?_ | refine AW.exit ?_ | refine AWL.nil ?_ | refine CW.nil ?_); (repeat (first | refine QEq.mp (by assumption) ?_ | simp only [thenQ, Go.Abs.blockQ, ↓reduceIte, Nat.reduceEqDiff])))
        | refine FW.nil ?_
        | refine FW.pass rfl rfl ?_
        | refine FW.go rfl ?_
        | refine CW.skip rfl rfl ?_
        | refine CW.step rfl rfl rfl rfl rfl ?_
        | ((first
          | (refine AWL.boxF (t := 25) rfl rfl rfl rfl rfl ?_)
          | (refine AWL.allocF (t := 25) rfl rfl rfl rfl rfl rfl ?_)
          | (refine CWr.allocF (t := 25) rfl rfl rfl ?_ ?_)
          | (refine AWL.op (sl := SL) rfl rfl ?_ ?_)
          | (refine FW.float rfl rfl rfl rfl rfl ?_)
          | (refine CWr.op rfl ?_ ?_ ?_)
          | (refine CWr.assign rfl ?_ ?_)
          | (refine CWr.alloc rfl rfl rfl rfl ?_)
          | (refine CWr.build rfl rfl rfl rfl ?_ rfl rfl rfl ?_)
          | ((show AWL _ _ ({ dst := _, op := _, type := _, pos := _, after := _, guard := none } :: _) _ _); refine AWL.frzA rfl rfl ?_)
          | (refine AWL.callV (f := 10) rfl rfl rfl rfl ?_ (Nat.le_of_ble_eq_true rfl) rfl (awake_ok) ?_; (focus kernel_rfl))
          | (refine AWL.call (f := 10) rfl rfl rfl ?_ rfl (Nat.le_of_ble_eq_true rfl) rfl (awake_ok) ?_; (focus kernel_rfl))
          | (refine CWr.call (f := 10) rfl ?_ rfl (awake_ok) (fun _ _ h => h) ?_ ?_ ?_; (focus kernel_rfl))
          | (refine AWL.callV (f := 28) rfl rfl rfl rfl ?_ (Nat.le_of_ble_eq_true rfl) rfl (hput) ?_; (focus kernel_rfl))
          | (refine AWL.call (f := 28) rfl rfl rfl ?_ rfl (Nat.le_of_ble_eq_true rfl) rfl (hput) ?_; (focus kernel_rfl))
          | (refine CWr.call (f := 28) rfl ?_ rfl (hput) (fun _ _ h => h) ?_ ?_ ?_; (focus kernel_rfl))
          | (refine AWL.callV (f := 30) rfl rfl rfl rfl ?_ (Nat.le_of_ble_eq_true rfl) rfl (htake0) ?_; (focus kernel_rfl))
          | (refine AWL.call (f := 30) rfl rfl rfl ?_ rfl (Nat.le_of_ble_eq_true rfl) rfl (htake0) ?_; (focus kernel_rfl))
          | (refine CWr.call (f := 30) rfl ?_ rfl (htake0) (fun _ _ h => h) ?_ ?_ ?_; (focus kernel_rfl))
          | (refine AWL.callV (f := 30) rfl rfl rfl rfl ?_ (Nat.le_of_ble_eq_true rfl) rfl (take_at _ _ _ _ ?_ ?_ ?_ hlen) ?_; (focus kernel_rfl))
          | (refine AWL.call (f := 30) rfl rfl rfl ?_ rfl (Nat.le_of_ble_eq_true rfl) rfl (take_at _ _ _ _ ?_ ?_ ?_ hlen) ?_; (focus kernel_rfl))
          | (refine CWr.call (f := 30) rfl ?_ rfl (take_at _ _ _ _ ?_ ?_ ?_ hlen) (fun _ _ h => h) ?_ ?_ ?_; (focus kernel_rfl))
          | (refine AWL.callV (f := 16) rfl rfl rfl rfl ?_ (Nat.le_of_ble_eq_true rfl) rfl (get_ok _ hv1 hv2 _ _) ?_; (focus kernel_rfl))
          | (refine AWL.call (f := 16) rfl rfl rfl ?_ rfl (Nat.le_of_ble_eq_true rfl) rfl (get_ok _ hv1 hv2 _ _) ?_; (focus kernel_rfl))
          | (refine CWr.call (f := 16) rfl ?_ rfl (get_ok _ hv1 hv2 _ _) (fun _ _ h => h) ?_ ?_ ?_; (focus kernel_rfl))
          | (refine AWL.callV (f := 11) rfl rfl rfl rfl ?_ (Nat.le_of_ble_eq_true rfl) rfl (hof32) ?_; (focus kernel_rfl))
          | (refine AWL.call (f := 11) rfl rfl rfl ?_ rfl (Nat.le_of_ble_eq_true rfl) rfl (hof32) ?_; (focus kernel_rfl))
          | (refine CWr.call (f := 11) rfl ?_ rfl (hof32) (fun _ _ h => h) ?_ ?_ ?_; (focus kernel_rfl))
          | (refine AWL.callV (f := 11) rfl rfl rfl rfl ?_ (Nat.le_of_ble_eq_true rfl) rfl (hof64) ?_; (focus kernel_rfl))
          | (refine AWL.call (f := 11) rfl rfl rfl ?_ rfl (Nat.le_of_ble_eq_true rfl) rfl (hof64) ?_; (focus kernel_rfl))
          | (refine CWr.call (f := 11) rfl ?_ rfl (hof64) (fun _ _ h => h) ?_ ?_ ?_; (focus kernel_rfl))
          | fail) <;> (try ((first | show AWL _ _ _ _ _ | show AW _ _ _ _ | show FW _ _ _ _ _ _ _ _ _ _ | show CW _ _ _ _ _ _ _ _ _ _ _ _ | (rintro _ _ ⟨rfl, rfl⟩; (try refine And.intro rfl ?_))); (try (conv => arg -1; simp (disch := omega) only [NSX, Nat.reduceBEq, Nat.reduceAdd, Nat.reduceMul, Int.reduceToNat, Nat.reduceSub, TY, slx, take16, drop16, dz, nums_length, B1, B2, e5, e6, h1])))))
        | ((first | refine AWL.guard2 rfl rfl rfl rfl rfl rfl ?_ ?_ | refine CW.guard2 rfl rfl rfl rfl rfl rfl rfl rfl ?_ ?_) <;> (intro hc; (try simp only [Bool.not_true, Bool.not_false] at hc); first | (cases hc; done) | ((try simp only [hc]); (try simp only [beq_iff_eq, bne_iff_ne, decide_eq_true_eq, decide_eq_false_iff_not, beq_eq_false_iff_ne, bne_eq_false_iff_eq, ne_eq, Bool.not_eq_true, Bool.not_eq_false, Bool.not_eq_eq_eq_not, Bool.not_true, Bool.not_false, Decidable.not_not, Int.not_lt, Int.not_le] at hc); (try (exfalso; omega)); (try (guard_hyp hc : True; clear hc)))) <;> (try (first | (with_reducible show AWL _ _ _ _ (St.put _ _ _)) | (with_reducible show CW _ _ _ _ _ _ _ _ _ _ _ (St.put _ _ _))); (try (conv => arg -1; simp (disch := omega) only [NSX, Nat.reduceBEq, Nat.reduceAdd, Nat.reduceMul, Int.reduceToNat, Nat.reduceSub, TY, slx, take16, drop16, dz, nums_length, B1, B2, e5, e6, h1]))))
        | (refine AWL.guard2 rfl rfl rfl rfl rfl rfl (fun hc => ?_) ?_; (cases hc; done))
        | ((first | ((show AW _ (.region _ _ true) _ _); refine AW.calm false [] [] hmix (by (repeat' (first | exact panOk_end | exact panOk_endM | refine panOk_then ?_ | refine panOk_block ?_ | refine QEq.pan (by assumption) ?_))) ?_ rfl ?_; (focus (as_aux_lemma => kernel_rfl))) | refine AWL.guardU rfl rfl rfl rfl rfl rfl ?_ | refine CW.guardU rfl rfl rfl rfl rfl rfl rfl rfl ?_); (try (conv => arg -1; simp (disch := omega) only [NSX, Nat.reduceBEq, Nat.reduceAdd, Nat.reduceMul, Int.reduceToNat, Nat.reduceSub, TY, slx, take16, drop16, dz, nums_length, B1, B2, e5, e6, h1])))
        | refine CW.tail rfl ?_
        | (refine AW.cond rfl (fun hc => ?_) (fun hc => ?_) <;> first | (cases hc; done) | ((try simp only [beq_iff_eq, bne_iff_ne, decide_eq_true_eq, decide_eq_false_iff_not, beq_eq_false_iff_ne, bne_eq_false_iff_eq, ne_eq, Bool.not_eq_true, Bool.not_eq_false, Bool.not_eq_eq_eq_not, Bool.not_true, Bool.not_false, Decidable.not_not, Int.not_lt, Int.not_le] at hc); (try (exfalso; omega)); (try (guard_hyp hc : True; clear hc))))
        | ((refine EndQ.mk rfl rfl rfl ?_ ?_ ?_; (focus (first | exact Or.inl rfl | exact Or.inr rfl))) <;> (try simp (disch := omega) only [NSX, Nat.reduceBEq, Nat.reduceAdd, Nat.reduceMul, Int.reduceToNat, Nat.reduceSub, TY, slx, take16, drop16, dz, nums_length, B1, B2, e5, e6, h1]))
        | (focus ((first | exact trivial | omega | (refine And.intro (by kernel_rfl) (And.intro ⟨_, (by first | exact nums_ints _ _ | rfl), (by first | exact nums_ints _ _ | rfl)⟩ (And.intro ?_ ?_)) <;> (first | rfl | assumption | (simp only [nums_length]; omega) | omega)) | (refine And.intro ?_ (And.intro ?_ ?_); (focus kernel_rfl); (focus kernel_rfl); (focus kernel_rfl)) | ((show newKs _ _ _ = true); kernel_rfl) | ((show FitV _ _ _ _ _ _); (repeat' (first | exact trivial | exact Or.inr (Or.inl rfl) | exact Or.inl rfl | exact Or.inr (Or.inr rfl) | refine And.intro ?_ ?_)); done) | assumption | ((first | refine ld_nums i3 _ _ ?_ | refine ld_nums i29 _ _ ?_ | refine ld_nums i5 _ _ ?_ | refine at_nums i3 _ _ ?_ | refine at_nums i29 _ _ ?_ | refine at_nums i5 _ _ ?_); first | assumption | omega | (simp only [List.length_append]; omega)) | (simp only [List.length_append, List.length_cons, List.length_nil, Nat.zero_add]; done) | exact hu0 | exact hu1 | exact hu2 | exact hu3 | (show _ ≤ _; omega) | (simp only [List.length_take, List.length_drop, List.length_append, List.length_cons, List.length_nil]; omega) | ((repeat' (first | exact trivial | exact rfl | exact Nat.le_of_ble_eq_true rfl | refine And.intro ?_ ?_ | fail)); done) | ((try simp (disch := omega) only [NSX, Nat.reduceBEq, Nat.reduceAdd, Nat.reduceMul, Int.reduceToNat, Nat.reduceSub, TY, slx, take16, drop16, dz, nums_length, B1, B2, e5, e6, h1]); (repeat' (first | exact trivial | exact rfl | exact ⟨_, _, rfl⟩ | exact ⟨_, rfl⟩ | exact Nat.le_of_ble_eq_true rfl | exact Nat.zero_lt_succ _ | omega | (simp only [nums_length, toB_len] at *; omega) | refine And.intro ?_ ?_ | fail)); done)); done))
        | fail)
      all_goals try simp (disch := omega) only [NSX, Nat.reduceBEq, Nat.reduceAdd, Nat.reduceMul, Int.reduceToNat, Nat.reduceSub, TY, slx, take16, drop16, dz, nums_length, B1, B2, e5, e6, h1]
      all_goals first
        | exact ⟨ts.length - (k + 1), by omega, k + 1, rfl, by omega, rfl, hos (by decide)⟩
        | (exfalso; omega) | trace_state
    · rw [h1] at hsn hos
      have e6 : IntKind.i64.wrap ((widthL (ts.take k) : Int) + 2) = (widthL (ts.take (k + 1)) : Nat) := by rw [hsn, show need 123 = 2 from rfl]; exact wrap64_id _ (by omega) (by omega)
      have hchk : True := by simp only [TY, slx, take16, drop16, dz, nums_length, B1, B2, e5, e6, h1]
      repeat' (first
        | (refine AWL.opN (sl := SL) rfl rfl rfl trivial ?_; (try (conv => arg -1; simp (disch := omega) only [NSX, Nat.reduceBEq, Nat.reduceAdd, Nat.reduceMul, Int.reduceToNat, Nat.reduceSub, TY, slx, take16, drop16, dz, nums_length, B1, B2, e5, e6, h1])))
        | (refine AW.seqQ ?_; intro Qn hQn)
        | (refine AW.blockQ ?_; intro Qn hQn)
        | refine AW.region ?_
        | ((first | refine AW.skip ?_ | refine AW.ret ?_ | refine AW.exit ?_ | refine AWL.nil ?_ | refine CW.nil ?_); (repeat (first | refine QEq.mp (by assumption) ?_ | simp only [thenQ, Go.Abs.blockQ, ↓reduceIte, Nat.reduceEqDiff])))
        | refine FW.nil ?_
        | refine FW.pass rfl rfl ?_
        | refine FW.go rfl ?_
        | refine CW.skip rfl rfl ?_
        | refine CW.step rfl rfl rfl rfl rfl ?_
        | ((first
          | (refine AWL.boxF (t := 25) rfl rfl rfl rfl rfl ?_)
          | (refine AWL.allocF (t := 25) rfl rfl rfl rfl rfl rfl ?_)
          | (refine CWr.allocF (t := 25) rfl rfl rfl ?_ ?_)
          | (refine AWL.op (sl := SL) rfl rfl ?_ ?_)
          | (refine FW.float rfl rfl rfl rfl rfl ?_)
          | (refine CWr.op rfl ?_ ?_ ?_)
          | (refine CWr.assign rfl ?_ ?_)
          | (refine CWr.alloc rfl rfl rfl rfl ?_)
          | (refine CWr.build rfl rfl rfl rfl ?_ rfl rfl rfl ?_)
          | ((show AWL _ _ ({ dst := _, op := _, type := _, pos := _, after := _, guard := none } :: _) _ _); refine AWL.frzA rfl rfl ?_)
          | (refine AWL.callV (f := 10) rfl rfl rfl rfl ?_ (Nat.le_of_ble_eq_true rfl) rfl (awake_ok) ?_; (focus kernel_rfl))
          | (refine AWL.call (f := 10) rfl rfl rfl ?_ rfl (Nat.le_of_ble_eq_true rfl) rfl (awake_ok) ?_; (focus kernel_rfl))
          | (refine CWr.call (f := 10) rfl ?_ rfl (awake_ok) (fun _ _ h => h) ?_ ?_ ?_; (focus kernel_rfl))
          | (refine AWL.callV (f := 28) rfl rfl rfl rfl ?_ (Nat.le_of_ble_eq_true rfl) rfl (hput) ?_; (focus kernel_rfl))
          | (refine AWL.call (f := 28) rfl rfl rfl ?_ rfl (Nat.le_of_ble_eq_true rfl) rfl (hput) ?_; (focus kernel_rfl))
          | (refine CWr.call (f := 28) rfl ?_ rfl (hput) (fun _ _ h => h) ?_ ?_ ?_; (focus kernel_rfl))
          | (refine AWL.callV (f := 30) rfl rfl rfl rfl ?_ (Nat.le_of_ble_eq_true rfl) rfl (htake0) ?_; (focus kernel_rfl))
          | (refine AWL.call (f := 30) rfl rfl rfl ?_ rfl (Nat.le_of_ble_eq_true rfl) rfl (htake0) ?_; (focus kernel_rfl))
          | (refine CWr.call (f := 30) rfl ?_ rfl (htake0) (fun _ _ h => h) ?_ ?_ ?_; (focus kernel_rfl))
          | (refine AWL.callV (f := 30) rfl rfl rfl rfl ?_ (Nat.le_of_ble_eq_true rfl) rfl (take_at _ _ _ _ ?_ ?_ ?_ hlen) ?_; (focus kernel_rfl))
          | (refine AWL.call (f := 30) rfl rfl rfl ?_ rfl (Nat.le_of_ble_eq_true rfl) rfl (take_at _ _ _ _ ?_ ?_ ?_ hlen) ?_; (focus kernel_rfl))
          | (refine CWr.call (f := 30) rfl ?_ rfl (take_at _ _ _ _ ?_ ?_ ?_ hlen) (fun _ _ h => h) ?_ ?_ ?_; (focus kernel_rfl))
          | (refine AWL.callV (f := 16) rfl rfl rfl rfl ?_ (Nat.le_of_ble_eq_true rfl) rfl (get_ok _ hv1 hv2 _ _) ?_; (focus kernel_rfl))
          | (refine AWL.call (f := 16) rfl rfl rfl ?_ rfl (Nat.le_of_ble_eq_true rfl) rfl (get_ok _ hv1 hv2 _ _) ?_; (focus kernel_rfl))
          | (refine CWr.call (f := 16) rfl ?_ rfl (get_ok _ hv1 hv2 _ _) (fun _ _ h => h) ?_ ?_ ?_; (focus kernel_rfl))
          | (refine AWL.callV (f := 11) rfl rfl rfl rfl ?_ (Nat.le_of_ble_eq_true rfl) rfl (hof32) ?_; (focus kernel_rfl))
          | (refine AWL.call (f := 11) rfl rfl rfl ?_ rfl (Nat.le_of_ble_eq_true rfl) rfl (hof32) ?_; (focus kernel_rfl))
          | (refine CWr.call (f := 11) rfl ?_ rfl (hof32) (fun _ _ h => h) ?_ ?_ ?_; (focus kernel_rfl))
          | (refine AWL.callV (f := 11) rfl rfl rfl rfl ?_ (Nat.le_of_ble_eq_true rfl) rfl (hof64) ?_; (focus kernel_rfl))
          | (refine AWL.call (f := 11) rfl rfl rfl ?_ rfl (Nat.le_of_ble_eq_true rfl) rfl (hof64) ?_; (focus kernel_rfl))
          | (refine CWr.call (f := 11) rfl ?_ rfl (hof64) (fun _ _ h => h) ?_ ?_ ?_; (focus kernel_rfl))
          | fail) <;> (try ((first | show AWL _ _ _ _ _ | show AW _ _ _ _ | show FW _ _ _ _ _ _ _ _ _ _ | show CW _ _ _ _ _ _ _ _ _ _ _ _ | (rintro _ _ ⟨rfl, rfl⟩; (try refine And.intro rfl ?_))); (try (conv => arg -1; simp (disch := omega) only [NSX, Nat.reduceBEq, Nat.reduceAdd, Nat.reduceMul, Int.reduceToNat, Nat.reduceSub, TY, slx, take16, drop16, dz, nums_length, B1, B2, e5, e6, h1])))))
        | ((first | refine AWL.guard2 rfl rfl rfl rfl rfl rfl ?_ ?_ | refine CW.guard2 rfl rfl rfl rfl rfl rfl rfl rfl ?_ ?_) <;> (intro hc; (try simp only [Bool.not_true, Bool.not_false] at hc); first | (cases hc; done) | ((try simp only [hc]); (try simp only [beq_iff_eq, bne_iff_ne, decide_eq_true_eq, decide_eq_false_iff_not, beq_eq_false_iff_ne, bne_eq_false_iff_eq, ne_eq, Bool.not_eq_true, Bool.not_eq_false, Bool.not_eq_eq_eq_not, Bool.not_true, Bool.not_false, Decidable.not_not, Int.not_lt, Int.not_le] at hc); (try (exfalso; omega)); (try (guard_hyp hc : True; clear hc)))) <;> (try (first | (with_reducible show AWL _ _ _ _ (St.put _ _ _)) | (with_reducible show CW _ _ _ _ _ _ _ _ _ _ _ (St.put _ _ _))); (try (conv => arg -1; simp (disch := omega) only [NSX, Nat.reduceBEq, Nat.reduceAdd, Nat.reduceMul, Int.reduceToNat, Nat.reduceSub, TY, slx, take16, drop16, dz, nums_length, B1, B2, e5, e6, h1]))))
        | (refine AWL.guard2 rfl rfl rfl rfl rfl rfl (fun hc => ?_) ?_; (cases hc; done))
        | ((first | ((show AW _ (.region _ _ true) _ _); refine AW.calm false [] [] hmix (by (repeat' (first | exact panOk_end | exact panOk_endM | refine panOk_then ?_ | refine panOk_block ?_ | refine QEq.pan (by assumption) ?_))) ?_ rfl ?_; (focus (as_aux_lemma => kernel_rfl))) | refine AWL.guardU rfl rfl rfl rfl rfl rfl ?_ | refine CW.guardU rfl rfl rfl rfl rfl rfl rfl rfl ?_); (try (conv => arg -1; simp (disch := omega) only [NSX, Nat.reduceBEq, Nat.reduceAdd, Nat.reduceMul, Int.reduceToNat, Nat.reduceSub, TY, slx, take16, drop16, dz, nums_length, B1, B2, e5, e6, h1])))
        | refine CW.tail rfl ?_
        | (refine AW.cond rfl (fun hc => ?_) (fun hc => ?_) <;> first | (cases hc; done) | ((try simp only [beq_iff_eq, bne_iff_ne, decide_eq_true_eq, decide_eq_false_iff_not, beq_eq_false_iff_ne, bne_eq_false_iff_eq, ne_eq, Bool.not_eq_true, Bool.not_eq_false, Bool.not_eq_eq_eq_not, Bool.not_true, Bool.not_false, Decidable.not_not, Int.not_lt, Int.not_le] at hc); (try (exfalso; omega)); (try (guard_hyp hc : True; clear hc))))
        | ((refine EndQ.mk rfl rfl rfl ?_ ?_ ?_; (focus (first | exact Or.inl rfl | exact Or.inr rfl))) <;> (try simp (disch := omega) only [NSX, Nat.reduceBEq, Nat.reduceAdd, Nat.reduceMul, Int.reduceToNat, Nat.reduceSub, TY, slx, take16, drop16, dz, nums_length, B1, B2, e5, e6, h1]))
        | (focus ((first | exact trivial | omega | (refine And.intro (by kernel_rfl) (And.intro ⟨_, (by first | exact nums_ints _ _ | rfl), (by first | exact nums_ints _ _ | rfl)⟩ (And.intro ?_ ?_)) <;> (first | rfl | assumption | (simp only [nums_length]; omega) | omega)) | (refine And.intro ?_ (And.intro ?_ ?_); (focus kernel_rfl); (focus kernel_rfl); (focus kernel_rfl)) | ((show newKs _ _ _ = true); kernel_rfl) | ((show FitV _ _ _ _ _ _); (repeat' (first | exact trivial | exact Or.inr (Or.inl rfl) | exact Or.inl rfl | exact Or.inr (Or.inr rfl) | refine And.intro ?_ ?_)); done) | assumption | ((first | refine ld_nums i3 _ _ ?_ | refine ld_nums i29 _ _ ?_ | refine ld_nums i5 _ _ ?_ | refine at_nums i3 _ _ ?_ | refine at_nums i29 _ _ ?_ | refine at_nums i5 _ _ ?_); first | assumption | omega | (simp only [List.length_append]; omega)) | (simp only [List.length_append, List.length_cons, List.length_nil, Nat.zero_add]; done) | exact hu0 | exact hu1 | exact hu2 | exact hu3 | (show _ ≤ _; omega) | (simp only [List.length_take, List.length_drop, List.length_append, List.length_cons, List.length_nil]; omega) | ((repeat' (first | exact trivial | exact rfl | exact Nat.le_of_ble_eq_true rfl | refine And.intro ?_ ?_ | fail)); done) | ((try simp (disch := omega) only [NSX, Nat.reduceBEq, Nat.reduceAdd, Nat.reduceMul, Int.reduceToNat, Nat.reduceSub, TY, slx, take16, drop16, dz, nums_length, B1, B2, e5, e6, h1]); (repeat' (first | exact trivial | exact rfl | exact ⟨_, _, rfl⟩ | exact ⟨_, rfl⟩ | exact Nat.le_of_ble_eq_true rfl | exact Nat.zero_lt_succ _ | omega | (simp only [nums_length, toB_len] at *; omega) | refine And.intro ?_ ?_ | fail)); done)); done))
        | fail)
      all_goals try simp (disch := omega) only [NSX, Nat.reduceBEq, Nat.reduceAdd, Nat.reduceMul, Int.reduceToNat, Nat.reduceSub, TY, slx, take16, drop16, dz, nums_length, B1, B2, e5, e6, h1]
      all_goals first
        | exact ⟨ts.length - (k + 1), by omega, k + 1, rfl, by omega, rfl, hos (by decide)⟩
        | (exfalso; omega) | trace_state
    · have hchk : True := by simp only [TY, slx, take16, drop16, dz, nums_length, B1, B2, e5, hT0]
      repeat' (first
        | (refine AWL.opN (sl := SL) rfl rfl rfl trivial ?_; (try (conv => arg -1; simp (disch := omega) only [NSX, Nat.reduceBEq, Nat.reduceAdd, Nat.reduceMul, Int.reduceToNat, Nat.reduceSub, TY, slx, take16, drop16, dz, nums_length, B1, B2, e5, hT0])))
        | (refine AW.seqQ ?_; intro Qn hQn)
        | (refine AW.blockQ ?_; intro Qn hQn)
        | refine AW.region ?_
        | ((first | refine AW.skip ?_ | refine AW.ret ?_ | refine AW.exit ?_ | refine AWL.nil ?_ | refine CW.nil ?_); (repeat (first | refine QEq.mp (by assumption) ?_ | simp only [thenQ, Go.Abs.blockQ, ↓reduceIte, Nat.reduceEqDiff])))
        | refine FW.nil ?_
        | refine FW.pass rfl rfl ?_
        | refine FW.go rfl ?_
        | refine CW.skip rfl rfl ?_
        | refine CW.step rfl rfl rfl rfl rfl ?_
        | ((first
          | (refine AWL.boxF (t := 25) rfl rfl rfl rfl rfl ?_)
          | (refine AWL.allocF (t := 25) rfl rfl rfl rfl rfl rfl ?_)
          | (refine CWr.allocF (t := 25) rfl rfl rfl ?_ ?_)
          | (refine AWL.op (sl := SL) rfl rfl ?_ ?_)
          | (refine FW.float rfl rfl rfl rfl rfl ?_)
          | (refine CWr.op rfl ?_ ?_ ?_)
          | (refine CWr.assign rfl ?_ ?_)
          | (refine CWr.alloc rfl rfl rfl rfl ?_)
          | (refine CWr.build rfl rfl rfl rfl ?_ rfl rfl rfl ?_)
          | ((show AWL _ _ ({ dst := _, op := _, type := _, pos := _, after := _, guard := none } :: _) _ _); refine AWL.frzA rfl rfl ?_)
          | (refine AWL.callV (f := 10) rfl rfl rfl rfl ?_ (Nat.le_of_ble_eq_true rfl) rfl (awake_ok) ?_; (focus kernel_rfl))
          | (refine AWL.call (f := 10) rfl rfl rfl ?_ rfl (Nat.le_of_ble_eq_true rfl) rfl (awake_ok) ?_; (focus kernel_rfl))
          | (refine CWr.call (f := 10) rfl ?_ rfl (awake_ok) (fun _ _ h => h) ?_ ?_ ?_; (focus kernel_rfl))
          | (refine AWL.callV (f := 28) rfl rfl rfl rfl ?_ (Nat.le_of_ble_eq_true rfl) rfl (hput) ?_; (focus kernel_rfl))
          | (refine AWL.call (f := 28) rfl rfl rfl ?_ rfl (Nat.le_of_ble_eq_true rfl) rfl (hput) ?_; (focus kernel_rfl))
          | (refine CWr.call (f := 28) rfl ?_ rfl (hput) (fun _ _ h => h) ?_ ?_ ?_; (focus kernel_rfl))
          | (refine AWL.callV (f := 30) rfl rfl rfl rfl ?_ (Nat.le_of_ble_eq_true rfl) rfl (htake0) ?_; (focus kernel_rfl))
          | (refine AWL.call (f := 30) rfl rfl rfl ?_ rfl (Nat.le_of_ble_eq_true rfl) rfl (htake0) ?_; (focus kernel_rfl))
          | (refine CWr.call (f := 30) rfl ?_ rfl (htake0) (fun _ _ h => h) ?_ ?_ ?_; (focus kernel_rfl))
          | (refine AWL.callV (f := 30) rfl rfl rfl rfl ?_ (Nat.le_of_ble_eq_true rfl) rfl (take_at _ _ _ _ ?_ ?_ ?_ hlen) ?_; (focus kernel_rfl))
          | (refine AWL.call (f := 30) rfl rfl rfl ?_ rfl (Nat.le_of_ble_eq_true rfl) rfl (take_at _ _ _ _ ?_ ?_ ?_ hlen) ?_; (focus kernel_rfl))
          | (refine CWr.call (f := 30) rfl ?_ rfl (take_at _ _ _ _ ?_ ?_ ?_ hlen) (fun _ _ h => h) ?_ ?_ ?_; (focus kernel_rfl))
          | (refine AWL.callV (f := 16) rfl rfl rfl rfl ?_ (Nat.le_of_ble_eq_true rfl) rfl (get_ok _ hv1 hv2 _ _) ?_; (focus kernel_rfl))
          | (refine AWL.call (f := 16) rfl rfl rfl ?_ rfl (Nat.le_of_ble_eq_true rfl) rfl (get_ok _ hv1 hv2 _ _) ?_; (focus kernel_rfl))
          | (refine CWr.call (f := 16) rfl ?_ rfl (get_ok _ hv1 hv2 _ _) (fun _ _ h => h) ?_ ?_ ?_; (focus kernel_rfl))
          | (refine AWL.callV (f := 11) rfl rfl rfl rfl ?_ (Nat.le_of_ble_eq_true rfl) rfl (hof32) ?_; (focus kernel_rfl))
          | (refine AWL.call (f := 11) rfl rfl rfl ?_ rfl (Nat.le_of_ble_eq_true rfl) rfl (hof32) ?_; (focus kernel_rfl))
          | (refine CWr.call (f := 11) rfl ?_ rfl (hof32) (fun _ _ h => h) ?_ ?_ ?_; (focus kernel_rfl))
          | (refine AWL.callV (f := 11) rfl rfl rfl rfl ?_ (Nat.le_of_ble_eq_true rfl) rfl (hof64) ?_; (focus kernel_rfl))
          | (refine AWL.call (f := 11) rfl rfl rfl ?_ rfl (Nat.le_of_ble_eq_true rfl) rfl (hof64) ?_; (focus kernel_rfl))
          | (refine CWr.call (f := 11) rfl ?_ rfl (hof64) (fun _ _ h => h) ?_ ?_ ?_; (focus kernel_rfl))
          | fail) <;> (try ((first | show AWL _ _ _ _ _ | show AW _ _ _ _ | show FW _ _ _ _ _ _ _ _ _ _ | show CW _ _ _ _ _ _ _ _ _ _ _ _ | (rintro _ _ ⟨rfl, rfl⟩; (try refine And.intro rfl ?_))); (try (conv => arg -1; simp (disch := omega) only [NSX, Nat.reduceBEq, Nat.reduceAdd, Nat.reduceMul, Int.reduceToNat, Nat.reduceSub, TY, slx, take16, drop16, dz, nums_length, B1, B2, e5, hT0])))))
        | ((first | refine AWL.guard2 rfl rfl rfl rfl rfl rfl ?_ ?_ | refine CW.guard2 rfl rfl rfl rfl rfl rfl rfl rfl ?_ ?_) <;> (intro hc; (try simp only [Bool.not_true, Bool.not_false] at hc); first | (cases hc; done) | ((try simp only [hc]); (try simp only [beq_iff_eq, bne_iff_ne, decide_eq_true_eq, decide_eq_false_iff_not, beq_eq_false_iff_ne, bne_eq_false_iff_eq, ne_eq, Bool.not_eq_true, Bool.not_eq_false, Bool.not_eq_eq_eq_not, Bool.not_true, Bool.not_false, Decidable.not_not, Int.not_lt, Int.not_le] at hc); (try (exfalso; omega)); (try (guard_hyp hc : True; clear hc)))) <;> (try (first | (with_reducible show AWL _ _ _ _ (St.put _ _ _)) | (with_reducible show CW _ _ _ _ _ _ _ _ _ _ _ (St.put _ _ _))); (try (conv => arg -1; simp (disch := omega) only [NSX, Nat.reduceBEq, Nat.reduceAdd, Nat.reduceMul, Int.reduceToNat, Nat.reduceSub, TY, slx, take16, drop16, dz, nums_length, B1, B2, e5, hT0]))))
        | (refine AWL.guard2 rfl rfl rfl rfl rfl rfl (fun hc => ?_) ?_; (cases hc; done))
        | ((first | ((show AW _ (.region _ _ true) _ _); refine AW.calm false [] [] hmix (by (repeat' (first | exact panOk_end | exact panOk_endM | refine panOk_then ?_ | refine panOk_block ?_ | refine QEq.pan (by assumption) ?_))) ?_ rfl ?_; (focus (as_aux_lemma => kernel_rfl))) | refine AWL.guardU rfl rfl rfl rfl rfl rfl ?_ | refine CW.guardU rfl rfl rfl rfl rfl rfl rfl rfl ?_); (try (conv => arg -1; simp (disch := omega) only [NSX, Nat.reduceBEq, Nat.reduceAdd, Nat.reduceMul, Int.reduceToNat, Nat.reduceSub, TY, slx, take16, drop16, dz, nums_length, B1, B2, e5, hT0])))
        | refine CW.tail rfl ?_
        | (refine AW.cond rfl (fun hc => ?_) (fun hc => ?_) <;> first | (cases hc; done) | ((try simp only [beq_iff_eq, bne_iff_ne, decide_eq_true_eq, decide_eq_false_iff_not, beq_eq_false_iff_ne, bne_eq_false_iff_eq, ne_eq, Bool.not_eq_true, Bool.not_eq_false, Bool.not_eq_eq_eq_not, Bool.not_true, Bool.not_false, Decidable.not_not, Int.not_lt, Int.not_le] at hc); (try (exfalso; omega)); (try (guard_hyp hc : True; clear hc))))
        | ((refine EndQ.mk rfl rfl rfl ?_ ?_ ?_; (focus (first | exact Or.inl rfl | exact Or.inr rfl))) <;> (try simp (disch := omega) only [NSX, Nat.reduceBEq, Nat.reduceAdd, Nat.reduceMul, Int.reduceToNat, Nat.reduceSub, TY, slx, take16, drop16, dz, nums_length, B1, B2, e5, hT0]))
        | (focus ((first | exact trivial | omega | (refine And.intro (by kernel_rfl) (And.intro ⟨_, (by first | exact nums_ints _ _ | rfl), (by first | exact nums_ints _ _ | rfl)⟩ (And.intro ?_ ?_)) <;> (first | rfl | assumption | (simp only [nums_length]; omega) | omega)) | (refine And.intro ?_ (And.intro ?_ ?_); (focus kernel_rfl); (focus kernel_rfl); (focus kernel_rfl)) | ((show newKs _ _ _ = true); kernel_rfl) | ((show FitV _ _ _ _ _ _); (repeat' (first | exact trivial | exact Or.inr (Or.inl rfl) | exact Or.inl rfl | exact Or.inr (Or.inr rfl) | refine And.intro ?_ ?_)); done) | assumption | ((first | refine ld_nums i3 _ _ ?_ | refine ld_nums i29 _ _ ?_ | refine ld_nums i5 _ _ ?_ | refine at_nums i3 _ _ ?_ | refine at_nums i29 _ _ ?_ | refine at_nums i5 _ _ ?_); first | assumption | omega | (simp only [List.length_append]; omega)) | (simp only [List.length_append, List.length_cons, List.length_nil, Nat.zero_add]; done) | exact hu0 | exact hu1 | exact hu2 | exact hu3 | (show _ ≤ _; omega) | (simp only [List.length_take, List.length_drop, List.length_append, List.length_cons, List.length_nil]; omega) | ((repeat' (first | exact trivial | exact rfl | exact Nat.le_of_ble_eq_true rfl | refine And.intro ?_ ?_ | fail)); done) | ((try simp (disch := omega) only [NSX, Nat.reduceBEq, Nat.reduceAdd, Nat.reduceMul, Int.reduceToNat, Nat.reduceSub, TY, slx, take16, drop16, dz, nums_length, B1, B2, e5, hT0]); (repeat' (first | exact trivial | exact rfl | exact ⟨_, _, rfl⟩ | exact ⟨_, rfl⟩ | exact Nat.le_of_ble_eq_true rfl | exact Nat.zero_lt_succ _ | omega | (simp only [nums_length, toB_len] at *; omega) | refine And.intro ?_ ?_ | fail)); done)); done))
        | fail)
      all_goals first | exact ⟨trivial, trivial⟩ | exact ⟨rfl, trivial⟩ | exact ⟨rfl, rfl⟩ | exact ⟨trivial, rfl⟩ | (exfalso; omega) | trace_state
  · have hT : ts.take k = ts := List.take_of_length_le (by omega)
    rw [hT] at ho; rw [hbad] at ho; cases ho
set_option maxRecDepth 8000 in
set_option maxHeartbeats 12800000 in
theorem pairBack_len (ts : List Int) (vs : List (List Int)) (hv : vecs vs) (hlen : ts.length ≤ 1048576) (hok : okTs ts = true) (hne : ts.length ≠ vs.length) :
    AC Try.prog 8 [.view ts.length 1 (nums .i64 ts), .view vs.length 16 (vecC vs)] (fun r m => r = .bool true ∧ m = []) := by
  have hput := put_ok ts vs hv hlen
  rw [put_not ts vs (fun h => hne h.2)] at hput
  have hv1 : True := trivial
  have hv2 : True := trivial
  have hof32 : True := trivial
  have hof64 : True := trivial
  have hu0 : u64s [] := by intro x hx; cases hx
  have hu1 : True := trivial
  have htake0 : True := trivial
  have hu2 : True := trivial
  have hu3 : True := trivial
  refine AC.enter Try.func8 rfl (Nat.le_of_ble_eq_true rfl) ?_
  simp only [Try.f8]
  have hchk : True := by simp only [TY, slx, take16, drop16, dz, nums_length, B1, B2]
  repeat' (first
    | (refine AWL.opN (sl := SL) rfl rfl rfl trivial ?_; (try (conv => arg -1; simp (disch := omega) only [NSX, Nat.reduceBEq, Nat.reduceAdd, Nat.reduceMul, Int.reduceToNat, Nat.reduceSub, TY, slx, take16, drop16, dz, nums_length, B1, B2])))
    | (refine AW.seqQ ?_; intro Qn hQn)
    | (refine AW.blockQ ?_; intro Qn hQn)
    | refine AW.region ?_
    | ((first | refine AW.skip ?_ | refine AW.ret ?_ | refine AW.exit ?_ | refine AWL.nil ?_ | refine CW.nil ?_); (repeat (first | refine QEq.mp (by assumption) ?_ | simp only [thenQ, Go.Abs.blockQ, ↓reduceIte, Nat.reduceEqDiff])))
    | refine FW.nil ?_
    | refine FW.pass rfl rfl ?_
    | refine FW.go rfl ?_
    | refine CW.skip rfl rfl ?_
    | refine CW.step rfl rfl rfl rfl rfl ?_
    | ((first
      | (refine AWL.boxF (t := 25) rfl rfl rfl rfl rfl ?_)
      | (refine AWL.allocF (t := 25) rfl rfl rfl rfl rfl rfl ?_)
      | (refine CWr.allocF (t := 25) rfl rfl rfl ?_ ?_)
      | (refine AWL.op (sl := SL) rfl rfl ?_ ?_)
      | (refine FW.float rfl rfl rfl rfl rfl ?_)
      | (refine CWr.op rfl ?_ ?_ ?_)
      | (refine CWr.assign rfl ?_ ?_)
      | (refine CWr.alloc rfl rfl rfl rfl ?_)
      | (refine CWr.build rfl rfl rfl rfl ?_ rfl rfl rfl ?_)
      | ((show AWL _ _ ({ dst := _, op := _, type := _, pos := _, after := _, guard := none } :: _) _ _); refine AWL.frzA rfl rfl ?_)
      | (refine AWL.callV (f := 10) rfl rfl rfl rfl ?_ (Nat.le_of_ble_eq_true rfl) rfl (awake_ok) ?_; (focus kernel_rfl))
      | (refine AWL.call (f := 10) rfl rfl rfl ?_ rfl (Nat.le_of_ble_eq_true rfl) rfl (awake_ok) ?_; (focus kernel_rfl))
      | (refine CWr.call (f := 10) rfl ?_ rfl (awake_ok) (fun _ _ h => h) ?_ ?_ ?_; (focus kernel_rfl))
      | (refine AWL.callV (f := 28) rfl rfl rfl rfl ?_ (Nat.le_of_ble_eq_true rfl) rfl (hput) ?_; (focus kernel_rfl))
      | (refine AWL.call (f := 28) rfl rfl rfl ?_ rfl (Nat.le_of_ble_eq_true rfl) rfl (hput) ?_; (focus kernel_rfl))
      | (refine CWr.call (f := 28) rfl ?_ rfl (hput) (fun _ _ h => h) ?_ ?_ ?_; (focus kernel_rfl))
      | (refine AWL.callV (f := 30) rfl rfl rfl rfl ?_ (Nat.le_of_ble_eq_true rfl) rfl (htake0) ?_; (focus kernel_rfl))
      | (refine AWL.call (f := 30) rfl rfl rfl ?_ rfl (Nat.le_of_ble_eq_true rfl) rfl (htake0) ?_; (focus kernel_rfl))
      | (refine CWr.call (f := 30) rfl ?_ rfl (htake0) (fun _ _ h => h) ?_ ?_ ?_; (focus kernel_rfl))
      | (refine AWL.callV (f := 30) rfl rfl rfl rfl ?_ (Nat.le_of_ble_eq_true rfl) rfl (take_at _ _ _ _ ?_ ?_ ?_ hlen) ?_; (focus kernel_rfl))
      | (refine AWL.call (f := 30) rfl rfl rfl ?_ rfl (Nat.le_of_ble_eq_true rfl) rfl (take_at _ _ _ _ ?_ ?_ ?_ hlen) ?_; (focus kernel_rfl))
      | (refine CWr.call (f := 30) rfl ?_ rfl (take_at _ _ _ _ ?_ ?_ ?_ hlen) (fun _ _ h => h) ?_ ?_ ?_; (focus kernel_rfl))
      | (refine AWL.callV (f := 16) rfl rfl rfl rfl ?_ (Nat.le_of_ble_eq_true rfl) rfl (get_ok _ hv1 hv2 _ _) ?_; (focus kernel_rfl))
      | (refine AWL.call (f := 16) rfl rfl rfl ?_ rfl (Nat.le_of_ble_eq_true rfl) rfl (get_ok _ hv1 hv2 _ _) ?_; (focus kernel_rfl))
      | (refine CWr.call (f := 16) rfl ?_ rfl (get_ok _ hv1 hv2 _ _) (fun _ _ h => h) ?_ ?_ ?_; (focus kernel_rfl))
      | (refine AWL.callV (f := 11) rfl rfl rfl rfl ?_ (Nat.le_of_ble_eq_true rfl) rfl (hof32) ?_; (focus kernel_rfl))
      | (refine AWL.call (f := 11) rfl rfl rfl ?_ rfl (Nat.le_of_ble_eq_true rfl) rfl (hof32) ?_; (focus kernel_rfl))
      | (refine CWr.call (f := 11) rfl ?_ rfl (hof32) (fun _ _ h => h) ?_ ?_ ?_; (focus kernel_rfl))
      | (refine AWL.callV (f := 11) rfl rfl rfl rfl ?_ (Nat.le_of_ble_eq_true rfl) rfl (hof64) ?_; (focus kernel_rfl))
      | (refine AWL.call (f := 11) rfl rfl rfl ?_ rfl (Nat.le_of_ble_eq_true rfl) rfl (hof64) ?_; (focus kernel_rfl))
      | (refine CWr.call (f := 11) rfl ?_ rfl (hof64) (fun _ _ h => h) ?_ ?_ ?_; (focus kernel_rfl))
      | fail) <;> (try ((first | show AWL _ _ _ _ _ | show AW _ _ _ _ | show FW _ _ _ _ _ _ _ _ _ _ | show CW _ _ _ _ _ _ _ _ _ _ _ _ | (rintro _ _ ⟨rfl, rfl⟩; (try refine And.intro rfl ?_))); (try (conv => arg -1; simp (disch := omega) only [NSX, Nat.reduceBEq, Nat.reduceAdd, Nat.reduceMul, Int.reduceToNat, Nat.reduceSub, TY, slx, take16, drop16, dz, nums_length, B1, B2])))))
    | ((first | refine AWL.guard2 rfl rfl rfl rfl rfl rfl ?_ ?_ | refine CW.guard2 rfl rfl rfl rfl rfl rfl rfl rfl ?_ ?_) <;> (intro hc; (try simp only [Bool.not_true, Bool.not_false] at hc); first | (cases hc; done) | ((try simp only [hc]); (try simp only [beq_iff_eq, bne_iff_ne, decide_eq_true_eq, decide_eq_false_iff_not, beq_eq_false_iff_ne, bne_eq_false_iff_eq, ne_eq, Bool.not_eq_true, Bool.not_eq_false, Bool.not_eq_eq_eq_not, Bool.not_true, Bool.not_false, Decidable.not_not, Int.not_lt, Int.not_le] at hc); (try (exfalso; omega)); (try (guard_hyp hc : True; clear hc)))) <;> (try (first | (with_reducible show AWL _ _ _ _ (St.put _ _ _)) | (with_reducible show CW _ _ _ _ _ _ _ _ _ _ _ (St.put _ _ _))); (try (conv => arg -1; simp (disch := omega) only [NSX, Nat.reduceBEq, Nat.reduceAdd, Nat.reduceMul, Int.reduceToNat, Nat.reduceSub, TY, slx, take16, drop16, dz, nums_length, B1, B2]))))
    | (refine AWL.guard2 rfl rfl rfl rfl rfl rfl (fun hc => ?_) ?_; (cases hc; done))
    | ((first | ((show AW _ (.region _ _ true) _ _); refine AW.calm false [] [] hmix (by (repeat' (first | exact panOk_end | exact panOk_endM | refine panOk_then ?_ | refine panOk_block ?_ | refine QEq.pan (by assumption) ?_))) ?_ rfl ?_; (focus (as_aux_lemma => kernel_rfl))) | refine AWL.guardU rfl rfl rfl rfl rfl rfl ?_ | refine CW.guardU rfl rfl rfl rfl rfl rfl rfl rfl ?_); (try (conv => arg -1; simp (disch := omega) only [NSX, Nat.reduceBEq, Nat.reduceAdd, Nat.reduceMul, Int.reduceToNat, Nat.reduceSub, TY, slx, take16, drop16, dz, nums_length, B1, B2])))
    | refine CW.tail rfl ?_
    | (refine AW.cond rfl (fun hc => ?_) (fun hc => ?_) <;> first | (cases hc; done) | ((try simp only [beq_iff_eq, bne_iff_ne, decide_eq_true_eq, decide_eq_false_iff_not, beq_eq_false_iff_ne, bne_eq_false_iff_eq, ne_eq, Bool.not_eq_true, Bool.not_eq_false, Bool.not_eq_eq_eq_not, Bool.not_true, Bool.not_false, Decidable.not_not, Int.not_lt, Int.not_le] at hc); (try (exfalso; omega)); (try (guard_hyp hc : True; clear hc))))
    | ((refine EndQ.mk rfl rfl rfl ?_ ?_ ?_; (focus (first | exact Or.inl rfl | exact Or.inr rfl))) <;> (try simp (disch := omega) only [NSX, Nat.reduceBEq, Nat.reduceAdd, Nat.reduceMul, Int.reduceToNat, Nat.reduceSub, TY, slx, take16, drop16, dz, nums_length, B1, B2]))
    | (focus ((first | exact trivial | omega | (refine And.intro (by kernel_rfl) (And.intro ⟨_, (by first | exact nums_ints _ _ | rfl), (by first | exact nums_ints _ _ | rfl)⟩ (And.intro ?_ ?_)) <;> (first | rfl | assumption | (simp only [nums_length]; omega) | omega)) | (refine And.intro ?_ (And.intro ?_ ?_); (focus kernel_rfl); (focus kernel_rfl); (focus kernel_rfl)) | ((show newKs _ _ _ = true); kernel_rfl) | ((show FitV _ _ _ _ _ _); (repeat' (first | exact trivial | exact Or.inr (Or.inl rfl) | exact Or.inl rfl | exact Or.inr (Or.inr rfl) | refine And.intro ?_ ?_)); done) | assumption | ((first | refine ld_nums i3 _ _ ?_ | refine ld_nums i29 _ _ ?_ | refine ld_nums i5 _ _ ?_ | refine at_nums i3 _ _ ?_ | refine at_nums i29 _ _ ?_ | refine at_nums i5 _ _ ?_); first | assumption | omega | (simp only [List.length_append]; omega)) | (simp only [List.length_append, List.length_cons, List.length_nil, Nat.zero_add]; done) | exact hu0 | exact hu1 | exact hu2 | exact hu3 | (show _ ≤ _; omega) | (simp only [List.length_take, List.length_drop, List.length_append, List.length_cons, List.length_nil]; omega) | ((repeat' (first | exact trivial | exact rfl | exact Nat.le_of_ble_eq_true rfl | refine And.intro ?_ ?_ | fail)); done) | ((try simp (disch := omega) only [NSX, Nat.reduceBEq, Nat.reduceAdd, Nat.reduceMul, Int.reduceToNat, Nat.reduceSub, TY, slx, take16, drop16, dz, nums_length, B1, B2]); (repeat' (first | exact trivial | exact rfl | exact ⟨_, _, rfl⟩ | exact ⟨_, rfl⟩ | exact Nat.le_of_ble_eq_true rfl | exact Nat.zero_lt_succ _ | omega | (simp only [nums_length, toB_len] at *; omega) | refine And.intro ?_ ?_ | fail)); done)); done))
    | fail)
  refine AW.loop [0, 1, 5, 6, 7, 8] [5] (fun m st => ∃ k : Nat, st = B1 ts vs [] 1 (widthL (ts.take k) : Nat) k ∧ k ≤ ts.length ∧ m = ts.length - k ∧ okTs (ts.take k) = true) ?_ ?_
  · exact ⟨_, 0, rfl, Nat.zero_le _, rfl, rfl⟩
  rintro m st ⟨k, rfl, hk, rfl, ho⟩
  have e5 : IntKind.i64.wrap ((k : Int) + 1) = ((k + 1 : Nat) : Int) := wrap64_id _ (by omega) (by omega)
  have hwk := widthL_le (ts.take k)
  rw [List.length_take] at hwk
  by_cases hkn : k < ts.length
  · have hsn : widthL (ts.take (k + 1)) = widthL (ts.take k) + need (ts.getD k 0) := by rw [take_snoc _ _ hkn, widthL_snoc]
    have hos : need (ts.getD k 0) ≠ 0 → okTs (ts.take (k + 1)) = true := fun h => by rw [take_snoc _ _ hkn, okTs_snoc, ho, decide_eq_true h]; rfl
    rcases need_cases (ts.getD k 0) with h1 | h1 | h1 | ⟨h0, h1, h2, h3⟩
    · rw [h1] at hsn hos
      have e6 : IntKind.i64.wrap ((widthL (ts.take k) : Int) + 1) = (widthL (ts.take (k + 1)) : Nat) := by rw [hsn, show need 127 = 1 from rfl]; exact wrap64_id _ (by omega) (by omega)
      have hchk : True := by simp only [TY, slx, take16, drop16, dz, nums_length, B1, B2, e5, e6, h1]
      repeat' (first
        | (refine AWL.opN (sl := SL) rfl rfl rfl trivial ?_; (try (conv => arg -1; simp (disch := omega) only [NSX, Nat.reduceBEq, Nat.reduceAdd, Nat.reduceMul, Int.reduceToNat, Nat.reduceSub, TY, slx, take16, drop16, dz, nums_length, B1, B2, e5, e6, h1])))
        | (refine AW.seqQ ?_; intro Qn hQn)
        | (refine AW.blockQ ?_; intro Qn hQn)
        | refine AW.region ?_
        | ((first | refine AW.skip ?_ | refine AW.ret ?_ | refine AW.exit ?_ | refine AWL.nil ?_ | refine CW.nil ?_); (repeat (first | refine QEq.mp (by assumption) ?_ | simp only [thenQ, Go.Abs.blockQ, ↓reduceIte, Nat.reduceEqDiff])))
        | refine FW.nil ?_
        | refine FW.pass rfl rfl ?_
        | refine FW.go rfl ?_
        | refine CW.skip rfl rfl ?_
        | refine CW.step rfl rfl rfl rfl rfl ?_
        | ((first
          | (refine AWL.boxF (t := 25) rfl rfl rfl rfl rfl ?_)
          | (refine AWL.allocF (t := 25) rfl rfl rfl rfl rfl rfl ?_)
          | (refine CWr.allocF (t := 25) rfl rfl rfl ?_ ?_)
          | (refine AWL.op (sl := SL) rfl rfl ?_ ?_)
          | (refine FW.float rfl rfl rfl rfl rfl ?_)
          | (refine CWr.op rfl ?_ ?_ ?_)
          | (refine CWr.assign rfl ?_ ?_)
          | (refine CWr.alloc rfl rfl rfl rfl ?_)
          | (refine CWr.build rfl rfl rfl rfl ?_ rfl rfl rfl ?_)
          | ((show AWL _ _ ({ dst := _, op := _, type := _, pos := _, after := _, guard := none } :: _) _ _); refine AWL.frzA rfl rfl ?_)
          | (refine AWL.callV (f := 10) rfl rfl rfl rfl ?_ (Nat.le_of_ble_eq_true rfl) rfl (awake_ok) ?_; (focus kernel_rfl))
          | (refine AWL.call (f := 10) rfl rfl rfl ?_ rfl (Nat.le_of_ble_eq_true rfl) rfl (awake_ok) ?_; (focus kernel_rfl))
          | (refine CWr.call (f := 10) rfl ?_ rfl (awake_ok) (fun _ _ h => h) ?_ ?_ ?_; (focus kernel_rfl))
          | (refine AWL.callV (f := 28) rfl rfl rfl rfl ?_ (Nat.le_of_ble_eq_true rfl) rfl (hput) ?_; (focus kernel_rfl))
          | (refine AWL.call (f := 28) rfl rfl rfl ?_ rfl (Nat.le_of_ble_eq_true rfl) rfl (hput) ?_; (focus kernel_rfl))
          | (refine CWr.call (f := 28) rfl ?_ rfl (hput) (fun _ _ h => h) ?_ ?_ ?_; (focus kernel_rfl))
          | (refine AWL.callV (f := 30) rfl rfl rfl rfl ?_ (Nat.le_of_ble_eq_true rfl) rfl (htake0) ?_; (focus kernel_rfl))
          | (refine AWL.call (f := 30) rfl rfl rfl ?_ rfl (Nat.le_of_ble_eq_true rfl) rfl (htake0) ?_; (focus kernel_rfl))
          | (refine CWr.call (f := 30) rfl ?_ rfl (htake0) (fun _ _ h => h) ?_ ?_ ?_; (focus kernel_rfl))
          | (refine AWL.callV (f := 30) rfl rfl rfl rfl ?_ (Nat.le_of_ble_eq_true rfl) rfl (take_at _ _ _ _ ?_ ?_ ?_ hlen) ?_; (focus kernel_rfl))
          | (refine AWL.call (f := 30) rfl rfl rfl ?_ rfl (Nat.le_of_ble_eq_true rfl) rfl (take_at _ _ _ _ ?_ ?_ ?_ hlen) ?_; (focus kernel_rfl))
          | (refine CWr.call (f := 30) rfl ?_ rfl (take_at _ _ _ _ ?_ ?_ ?_ hlen) (fun _ _ h => h) ?_ ?_ ?_; (focus kernel_rfl))
          | (refine AWL.callV (f := 16) rfl rfl rfl rfl ?_ (Nat.le_of_ble_eq_true rfl) rfl (get_ok _ hv1 hv2 _ _) ?_; (focus kernel_rfl))
          | (refine AWL.call (f := 16) rfl rfl rfl ?_ rfl (Nat.le_of_ble_eq_true rfl) rfl (get_ok _ hv1 hv2 _ _) ?_; (focus kernel_rfl))
          | (refine CWr.call (f := 16) rfl ?_ rfl (get_ok _ hv1 hv2 _ _) (fun _ _ h => h) ?_ ?_ ?_; (focus kernel_rfl))
          | (refine AWL.callV (f := 11) rfl rfl rfl rfl ?_ (Nat.le_of_ble_eq_true rfl) rfl (hof32) ?_; (focus kernel_rfl))
          | (refine AWL.call (f := 11) rfl rfl rfl ?_ rfl (Nat.le_of_ble_eq_true rfl) rfl (hof32) ?_; (focus kernel_rfl))
          | (refine CWr.call (f := 11) rfl ?_ rfl (hof32) (fun _ _ h => h) ?_ ?_ ?_; (focus kernel_rfl))
          | (refine AWL.callV (f := 11) rfl rfl rfl rfl ?_ (Nat.le_of_ble_eq_true rfl) rfl (hof64) ?_; (focus kernel_rfl))
          | (refine AWL.call (f := 11) rfl rfl rfl ?_ rfl (Nat.le_of_ble_eq_true rfl) rfl (hof64) ?_; (focus kernel_rfl))
          | (refine CWr.call (f := 11) rfl ?_ rfl (hof64) (fun _ _ h => h) ?_ ?_ ?_; (focus kernel_rfl))
          | fail) <;> (try ((first | show AWL _ _ _ _ _ | show AW _ _ _ _ | show FW _ _ _ _ _ _ _ _ _ _ | show CW _ _ _ _ _ _ _ _ _ _ _ _ | (rintro _ _ ⟨rfl, rfl⟩; (try refine And.intro rfl ?_))); (try (conv => arg -1; simp (disch := omega) only [NSX, Nat.reduceBEq, Nat.reduceAdd, Nat.reduceMul, Int.reduceToNat, Nat.reduceSub, TY, slx, take16, drop16, dz, nums_length, B1, B2, e5, e6, h1])))))
        | ((first | refine AWL.guard2 rfl rfl rfl rfl rfl rfl ?_ ?_ | refine CW.guard2 rfl rfl rfl rfl rfl rfl rfl rfl ?_ ?_) <;> (intro hc; (try simp only [Bool.not_true, Bool.not_false] at hc); first | (cases hc; done) | ((try simp only [hc]); (try simp only [beq_iff_eq, bne_iff_ne, decide_eq_true_eq, decide_eq_false_iff_not, beq_eq_false_iff_ne, bne_eq_false_iff_eq, ne_eq, Bool.not_eq_true, Bool.not_eq_false, Bool.not_eq_eq_eq_not, Bool.not_true, Bool.not_false, Decidable.not_not, Int.not_lt, Int.not_le] at hc); (try (exfalso; omega)); (try (guard_hyp hc : True; clear hc)))) <;> (try (first | (with_reducible show AWL _ _ _ _ (St.put _ _ _)) | (with_reducible show CW _ _ _ _ _ _ _ _ _ _ _ (St.put _ _ _))); (try (conv => arg -1; simp (disch := omega) only [NSX, Nat.reduceBEq, Nat.reduceAdd, Nat.reduceMul, Int.reduceToNat, Nat.reduceSub, TY, slx, take16, drop16, dz, nums_length, B1, B2, e5, e6, h1]))))
        | (refine AWL.guard2 rfl rfl rfl rfl rfl rfl (fun hc => ?_) ?_; (cases hc; done))
        | ((first | ((show AW _ (.region _ _ true) _ _); refine AW.calm false [] [] hmix (by (repeat' (first | exact panOk_end | exact panOk_endM | refine panOk_then ?_ | refine panOk_block ?_ | refine QEq.pan (by assumption) ?_))) ?_ rfl ?_; (focus (as_aux_lemma => kernel_rfl))) | refine AWL.guardU rfl rfl rfl rfl rfl rfl ?_ | refine CW.guardU rfl rfl rfl rfl rfl rfl rfl rfl ?_); (try (conv => arg -1; simp (disch := omega) only [NSX, Nat.reduceBEq, Nat.reduceAdd, Nat.reduceMul, Int.reduceToNat, Nat.reduceSub, TY, slx, take16, drop16, dz, nums_length, B1, B2, e5, e6, h1])))
        | refine CW.tail rfl ?_
        | (refine AW.cond rfl (fun hc => ?_) (fun hc => ?_) <;> first | (cases hc; done) | ((try simp only [beq_iff_eq, bne_iff_ne, decide_eq_true_eq, decide_eq_false_iff_not, beq_eq_false_iff_ne, bne_eq_false_iff_eq, ne_eq, Bool.not_eq_true, Bool.not_eq_false, Bool.not_eq_eq_eq_not, Bool.not_true, Bool.not_false, Decidable.not_not, Int.not_lt, Int.not_le] at hc); (try (exfalso; omega)); (try (guard_hyp hc : True; clear hc))))
        | ((refine EndQ.mk rfl rfl rfl ?_ ?_ ?_; (focus (first | exact Or.inl rfl | exact Or.inr rfl))) <;> (try simp (disch := omega) only [NSX, Nat.reduceBEq, Nat.reduceAdd, Nat.reduceMul, Int.reduceToNat, Nat.reduceSub, TY, slx, take16, drop16, dz, nums_length, B1, B2, e5, e6, h1]))
        | (focus ((first | exact trivial | omega | (refine And.intro (by kernel_rfl) (And.intro ⟨_, (by first | exact nums_ints _ _ | rfl), (by first | exact nums_ints _ _ | rfl)⟩ (And.intro ?_ ?_)) <;> (first | rfl | assumption | (simp only [nums_length]; omega) | omega)) | (refine And.intro ?_ (And.intro ?_ ?_); (focus kernel_rfl); (focus kernel_rfl); (focus kernel_rfl)) | ((show newKs _ _ _ = true); kernel_rfl) | ((show FitV _ _ _ _ _ _); (repeat' (first | exact trivial | exact Or.inr (Or.inl rfl) | exact Or.inl rfl | exact Or.inr (Or.inr rfl) | refine And.intro ?_ ?_)); done) | assumption | ((first | refine ld_nums i3 _ _ ?_ | refine ld_nums i29 _ _ ?_ | refine ld_nums i5 _ _ ?_ | refine at_nums i3 _ _ ?_ | refine at_nums i29 _ _ ?_ | refine at_nums i5 _ _ ?_); first | assumption | omega | (simp only [List.length_append]; omega)) | (simp only [List.length_append, List.length_cons, List.length_nil, Nat.zero_add]; done) | exact hu0 | exact hu1 | exact hu2 | exact hu3 | (show _ ≤ _; omega) | (simp only [List.length_take, List.length_drop, List.length_append, List.length_cons, List.length_nil]; omega) | ((repeat' (first | exact trivial | exact rfl | exact Nat.le_of_ble_eq_true rfl | refine And.intro ?_ ?_ | fail)); done) | ((try simp (disch := omega) only [NSX, Nat.reduceBEq, Nat.reduceAdd, Nat.reduceMul, Int.reduceToNat, Nat.reduceSub, TY, slx, take16, drop16, dz, nums_length, B1, B2, e5, e6, h1]); (repeat' (first | exact trivial | exact rfl | exact ⟨_, _, rfl⟩ | exact ⟨_, rfl⟩ | exact Nat.le_of_ble_eq_true rfl | exact Nat.zero_lt_succ _ | omega | (simp only [nums_length, toB_len] at *; omega) | refine And.intro ?_ ?_ | fail)); done)); done))
        | fail)
      all_goals try simp (disch := omega) only [NSX, Nat.reduceBEq, Nat.reduceAdd, Nat.reduceMul, Int.reduceToNat, Nat.reduceSub, TY, slx, take16, drop16, dz, nums_length, B1, B2, e5, e6, h1]
      all_goals first
        | exact ⟨ts.length - (k + 1), by omega, k + 1, rfl, by omega, rfl, hos (by decide)⟩
        | (exfalso; omega) | trace_state
    · rw [h1] at hsn hos
      have e6 : IntKind.i64.wrap ((widthL (ts.take k) : Int) + 1) = (widthL (ts.take (k + 1)) : Nat) := by rw [hsn, show need 126 = 1 from rfl]; exact wrap64_id _ (by omega) (by omega)
      have hchk : True := by simp only [TY, slx, take16, drop16, dz, nums_length, B1, B2, e5, e6, h1]
      repeat' (first
        | (refine AWL.opN (sl := SL) rfl rfl rfl trivial ?_; (try (conv => arg -1; simp (disch := omega) only [NSX, Nat.reduceBEq, Nat.reduceAdd, Nat.reduceMul, Int.reduceToNat, Nat.reduceSub, TY, slx, take16, drop16, dz, nums_length, B1, B2, e5, e6, h1])))
        | (refine AW.seqQ ?_; intro Qn hQn)
        | (refine AW.blockQ ?_; intro Qn hQn)
        | refine AW.region ?_
        | ((first | refine AW.skip ?_ | refine AW.ret ?_ | refine AW.exit ?_ | refine AWL.nil ?_ | refine CW.nil ?_); (repeat (first | refine QEq.mp (by assumption) ?_ | simp only [thenQ, Go.Abs.blockQ, ↓reduceIte, Nat.reduceEqDiff])))
        | refine FW.nil ?_
        | refine FW.pass rfl rfl ?_
        | refine FW.go rfl ?_
        | refine CW.skip rfl rfl ?_
        | refine CW.step rfl rfl rfl rfl rfl ?_
        | ((first
          | (refine AWL.boxF (t := 25) rfl rfl rfl rfl rfl ?_)
          | (refine AWL.allocF (t := 25) rfl rfl rfl rfl rfl rfl ?_)
          | (refine CWr.allocF (t := 25) rfl rfl rfl ?_ ?_)
          | (refine AWL.op (sl := SL) rfl rfl ?_ ?_)
          | (refine FW.float rfl rfl rfl rfl rfl ?_)
          | (refine CWr.op rfl ?_ ?_ ?_)
          | (refine CWr.assign rfl ?_ ?_)
          | (refine CWr.alloc rfl rfl rfl rfl ?_)
          | (refine CWr.build rfl rfl rfl rfl ?_ rfl rfl rfl ?_)
          | ((show AWL _ _ ({ dst := _, op := _, type := _, pos := _, after := _, guard := none } :: _) _ _); refine AWL.frzA rfl rfl ?_)
          | (refine AWL.callV (f := 10) rfl rfl rfl rfl ?_ (Nat.le_of_ble_eq_true rfl) rfl (awake_ok) ?_; (focus kernel_rfl))
          | (refine AWL.call (f := 10) rfl rfl rfl ?_ rfl (Nat.le_of_ble_eq_true rfl) rfl (awake_ok) ?_; (focus kernel_rfl))
          | (refine CWr.call (f := 10) rfl ?_ rfl (awake_ok) (fun _ _ h => h) ?_ ?_ ?_; (focus kernel_rfl))
          | (refine AWL.callV (f := 28) rfl rfl rfl rfl ?_ (Nat.le_of_ble_eq_true rfl) rfl (hput) ?_; (focus kernel_rfl))
          | (refine AWL.call (f := 28) rfl rfl rfl ?_ rfl (Nat.le_of_ble_eq_true rfl) rfl (hput) ?_; (focus kernel_rfl))
          | (refine CWr.call (f := 28) rfl ?_ rfl (hput) (fun _ _ h => h) ?_ ?_ ?_; (focus kernel_rfl))
          | (refine AWL.callV (f := 30) rfl rfl rfl rfl ?_ (Nat.le_of_ble_eq_true rfl) rfl (htake0) ?_; (focus kernel_rfl))
          | (refine AWL.call (f := 30) rfl rfl rfl ?_ rfl (Nat.le_of_ble_eq_true rfl) rfl (htake0) ?_; (focus kernel_rfl))
          | (refine CWr.call (f := 30) rfl ?_ rfl (htake0) (fun _ _ h => h) ?_ ?_ ?_; (focus kernel_rfl))
          | (refine AWL.callV (f := 30) rfl rfl rfl rfl ?_ (Nat.le_of_ble_eq_true rfl) rfl (take_at _ _ _ _ ?_ ?_ ?_ hlen) ?_; (focus kernel_rfl))
          | (refine AWL.call (f := 30) rfl rfl rfl ?_ rfl (Nat.le_of_ble_eq_true rfl) rfl (take_at _ _ _ _ ?_ ?_ ?_ hlen) ?_; (focus kernel_rfl))
          | (refine CWr.call (f := 30) rfl ?_ rfl (take_at _ _ _ _ ?_ ?_ ?_ hlen) (fun _ _ h => h) ?_ ?_ ?_; (focus kernel_rfl))
          | (refine AWL.callV (f := 16) rfl rfl rfl rfl ?_ (Nat.le_of_ble_eq_true rfl) rfl (get_ok _ hv1 hv2 _ _) ?_; (focus kernel_rfl))
          | (refine AWL.call (f := 16) rfl rfl rfl ?_ rfl (Nat.le_of_ble_eq_true rfl) rfl (get_ok _ hv1 hv2 _ _) ?_; (focus kernel_rfl))
          | (refine CWr.call (f := 16) rfl ?_ rfl (get_ok _ hv1 hv2 _ _) (fun _ _ h => h) ?_ ?_ ?_; (focus kernel_rfl))
          | (refine AWL.callV (f := 11) rfl rfl rfl rfl ?_ (Nat.le_of_ble_eq_true rfl) rfl (hof32) ?_; (focus kernel_rfl))
          | (refine AWL.call (f := 11) rfl rfl rfl ?_ rfl (Nat.le_of_ble_eq_true rfl) rfl (hof32) ?_; (focus kernel_rfl))
          | (refine CWr.call (f := 11) rfl ?_ rfl (hof32) (fun _ _ h => h) ?_ ?_ ?_; (focus kernel_rfl))
          | (refine AWL.callV (f := 11) rfl rfl rfl rfl ?_ (Nat.le_of_ble_eq_true rfl) rfl (hof64) ?_; (focus kernel_rfl))
          | (refine AWL.call (f := 11) rfl rfl rfl ?_ rfl (Nat.le_of_ble_eq_true rfl) rfl (hof64) ?_; (focus kernel_rfl))
          | (refine CWr.call (f := 11) rfl ?_ rfl (hof64) (fun _ _ h => h) ?_ ?_ ?_; (focus kernel_rfl))
          | fail) <;> (try ((first | show AWL _ _ _ _ _ | show AW _ _ _ _ | show FW _ _ _ _ _ _ _ _ _ _ | show CW _ _ _ _ _ _ _ _ _ _ _ _ | (rintro _ _ ⟨rfl, rfl⟩; (try refine And.intro rfl ?_))); (try (conv => arg -1; simp (disch := omega) only [NSX, Nat.reduceBEq, Nat.reduceAdd, Nat.reduceMul, Int.reduceToNat, Nat.reduceSub, TY, slx, take16, drop16, dz, nums_length, B1, B2, e5, e6, h1])))))
        | ((first | refine AWL.guard2 rfl rfl rfl rfl rfl rfl ?_ ?_ | refine CW.guard2 rfl rfl rfl rfl rfl rfl rfl rfl ?_ ?_) <;> (intro hc; (try simp only [Bool.not_true, Bool.not_false] at hc); first | (cases hc; done) | ((try simp only [hc]); (try simp only [beq_iff_eq, bne_iff_ne, decide_eq_true_eq, decide_eq_false_iff_not, beq_eq_false_iff_ne, bne_eq_false_iff_eq, ne_eq, Bool.not_eq_true, Bool.not_eq_false, Bool.not_eq_eq_eq_not, Bool.not_true, Bool.not_false, Decidable.not_not, Int.not_lt, Int.not_le] at hc); (try (exfalso; omega)); (try (guard_hyp hc : True; clear hc)))) <;> (try (first | (with_reducible show AWL _ _ _ _ (St.put _ _ _)) | (with_reducible show CW _ _ _ _ _ _ _ _ _ _ _ (St.put _ _ _))); (try (conv => arg -1; simp (disch := omega) only [NSX, Nat.reduceBEq, Nat.reduceAdd, Nat.reduceMul, Int.reduceToNat, Nat.reduceSub, TY, slx, take16, drop16, dz, nums_length, B1, B2, e5, e6, h1]))))
        | (refine AWL.guard2 rfl rfl rfl rfl rfl rfl (fun hc => ?_) ?_; (cases hc; done))
        | ((first | ((show AW _ (.region _ _ true) _ _); refine AW.calm false [] [] hmix (by (repeat' (first | exact panOk_end | exact panOk_endM | refine panOk_then ?_ | refine panOk_block ?_ | refine QEq.pan (by assumption) ?_))) ?_ rfl ?_; (focus (as_aux_lemma => kernel_rfl))) | refine AWL.guardU rfl rfl rfl rfl rfl rfl ?_ | refine CW.guardU rfl rfl rfl rfl rfl rfl rfl rfl ?_); (try (conv => arg -1; simp (disch := omega) only [NSX, Nat.reduceBEq, Nat.reduceAdd, Nat.reduceMul, Int.reduceToNat, Nat.reduceSub, TY, slx, take16, drop16, dz, nums_length, B1, B2, e5, e6, h1])))
        | refine CW.tail rfl ?_
        | (refine AW.cond rfl (fun hc => ?_) (fun hc => ?_) <;> first | (cases hc; done) | ((try simp only [beq_iff_eq, bne_iff_ne, decide_eq_true_eq, decide_eq_false_iff_not, beq_eq_false_iff_ne, bne_eq_false_iff_eq, ne_eq, Bool.not_eq_true, Bool.not_eq_false, Bool.not_eq_eq_eq_not, Bool.not_true, Bool.not_false, Decidable.not_not, Int.not_lt, Int.not_le] at hc); (try (exfalso; omega)); (try (guard_hyp hc : True; clear hc))))
        | ((refine EndQ.mk rfl rfl rfl ?_ ?_ ?_; (focus (first | exact Or.inl rfl | exact Or.inr rfl))) <;> (try simp (disch := omega) only [NSX, Nat.reduceBEq, Nat.reduceAdd, Nat.reduceMul, Int.reduceToNat, Nat.reduceSub, TY, slx, take16, drop16, dz, nums_length, B1, B2, e5, e6, h1]))
        | (focus ((first | exact trivial | omega | (refine And.intro (by kernel_rfl) (And.intro ⟨_, (by first | exact nums_ints _ _ | rfl), (by first | exact nums_ints _ _ | rfl)⟩ (And.intro ?_ ?_)) <;> (first | rfl | assumption | (simp only [nums_length]; omega) | omega)) | (refine And.intro ?_ (And.intro ?_ ?_); (focus kernel_rfl); (focus kernel_rfl); (focus kernel_rfl)) | ((show newKs _ _ _ = true); kernel_rfl) | ((show FitV _ _ _ _ _ _); (repeat' (first | exact trivial | exact Or.inr (Or.inl rfl) | exact Or.inl rfl | exact Or.inr (Or.inr rfl) | refine And.intro ?_ ?_)); done) | assumption | ((first | refine ld_nums i3 _ _ ?_ | refine ld_nums i29 _ _ ?_ | refine ld_nums i5 _ _ ?_ | refine at_nums i3 _ _ ?_ | refine at_nums i29 _ _ ?_ | refine at_nums i5 _ _ ?_); first | assumption | omega | (simp only [List.length_append]; omega)) | (simp only [List.length_append, List.length_cons, List.length_nil, Nat.zero_add]; done) | exact hu0 | exact hu1 | exact hu2 | exact hu3 | (show _ ≤ _; omega) | (simp only [List.length_take, List.length_drop, List.length_append, List.length_cons, List.length_nil]; omega) | ((repeat' (first | exact trivial | exact rfl | exact Nat.le_of_ble_eq_true rfl | refine And.intro ?_ ?_ | fail)); done) | ((try simp (disch := omega) only [NSX, Nat.reduceBEq, Nat.reduceAdd, Nat.reduceMul, Int.reduceToNat, Nat.reduceSub, TY, slx, take16, drop16, dz, nums_length, B1, B2, e5, e6, h1]); (repeat' (first | exact trivial | exact rfl | exact ⟨_, _, rfl⟩ | exact ⟨_, rfl⟩ | exact Nat.le_of_ble_eq_true rfl | exact Nat.zero_lt_succ _ | omega | (simp only [nums_length, toB_len] at *; omega) | refine And.intro ?_ ?_ | fail)); done)); done))
        | fail)
      all_goals try simp (disch := omega) only [NSX, Nat.reduceBEq, Nat.reduceAdd, Nat.reduceMul, Int.reduceToNat, Nat.reduceSub, TY, slx, take16, drop16, dz, nums_length, B1, B2, e5, e6, h1]
      all_goals first
        | exact ⟨ts.length - (k + 1), by omega, k + 1, rfl, by omega, rfl, hos (by decide)⟩
        | (exfalso; omega) | trace_state
    · rw [h1] at hsn hos
      have e6 : IntKind.i64.wrap ((widthL (ts.take k) : Int) + 2) = (widthL (ts.take (k + 1)) : Nat) := by rw [hsn, show need 123 = 2 from rfl]; exact wrap64_id _ (by omega) (by omega)
      have hchk : True := by simp only [TY, slx, take16, drop16, dz, nums_length, B1, B2, e5, e6, h1]
      repeat' (first
        | (refine AWL.opN (sl := SL) rfl rfl rfl trivial ?_; (try (conv => arg -1; simp (disch := omega) only [NSX, Nat.reduceBEq, Nat.reduceAdd, Nat.reduceMul, Int.reduceToNat, Nat.reduceSub, TY, slx, take16, drop16, dz, nums_length, B1, B2, e5, e6, h1])))
        | (refine AW.seqQ ?_; intro Qn hQn)
        | (refine AW.blockQ ?_; intro Qn hQn)
        | refine AW.region ?_
        | ((first | refine AW.skip ?_ | refine AW.ret ?_ | refine AW.exit ?_ | refine AWL.nil ?_ | refine CW.nil ?_); (repeat (first | refine QEq.mp (by assumption) ?_ | simp only [thenQ, Go.Abs.blockQ, ↓reduceIte, Nat.reduceEqDiff])))
        | refine FW.nil ?_
        | refine FW.pass rfl rfl ?_
        | refine FW.go rfl ?_
        | refine CW.skip rfl rfl ?_
        | refine CW.step rfl rfl rfl rfl rfl ?_
        | ((first
          | (refine AWL.boxF (t := 25) rfl rfl rfl rfl rfl ?_)
          | (refine AWL.allocF (t := 25) rfl rfl rfl rfl rfl rfl ?_)
          | (refine CWr.allocF (t := 25) rfl rfl rfl ?_ ?_)
          | (refine AWL.op (sl := SL) rfl rfl ?_ ?_)
          | (refine FW.float rfl rfl rfl rfl rfl ?_)
          | (refine CWr.op rfl ?_ ?_ ?_)
          | (refine CWr.assign rfl ?_ ?_)
          | (refine CWr.alloc rfl rfl rfl rfl ?_)
          | (refine CWr.build rfl rfl rfl rfl ?_ rfl rfl rfl ?_)
          | ((show AWL _ _ ({ dst := _, op := _, type := _, pos := _, after := _, guard := none } :: _) _ _); refine AWL.frzA rfl rfl ?_)
          | (refine AWL.callV (f := 10) rfl rfl rfl rfl ?_ (Nat.le_of_ble_eq_true rfl) rfl (awake_ok) ?_; (focus kernel_rfl))
          | (refine AWL.call (f := 10) rfl rfl rfl ?_ rfl (Nat.le_of_ble_eq_true rfl) rfl (awake_ok) ?_; (focus kernel_rfl))
          | (refine CWr.call (f := 10) rfl ?_ rfl (awake_ok) (fun _ _ h => h) ?_ ?_ ?_; (focus kernel_rfl))
          | (refine AWL.callV (f := 28) rfl rfl rfl rfl ?_ (Nat.le_of_ble_eq_true rfl) rfl (hput) ?_; (focus kernel_rfl))
          | (refine AWL.call (f := 28) rfl rfl rfl ?_ rfl (Nat.le_of_ble_eq_true rfl) rfl (hput) ?_; (focus kernel_rfl))
          | (refine CWr.call (f := 28) rfl ?_ rfl (hput) (fun _ _ h => h) ?_ ?_ ?_; (focus kernel_rfl))
          | (refine AWL.callV (f := 30) rfl rfl rfl rfl ?_ (Nat.le_of_ble_eq_true rfl) rfl (htake0) ?_; (focus kernel_rfl))
          | (refine AWL.call (f := 30) rfl rfl rfl ?_ rfl (Nat.le_of_ble_eq_true rfl) rfl (htake0) ?_; (focus kernel_rfl))
          | (refine CWr.call (f := 30) rfl ?_ rfl (htake0) (fun _ _ h => h) ?_ ?_ ?_; (focus kernel_rfl))
          | (refine AWL.callV (f := 30) rfl rfl rfl rfl ?_ (Nat.le_of_ble_eq_true rfl) rfl (take_at _ _ _ _ ?_ ?_ ?_ hlen) ?_; (focus kernel_rfl))
          | (refine AWL.call (f := 30) rfl rfl rfl ?_ rfl (Nat.le_of_ble_eq_true rfl) rfl (take_at _ _ _ _ ?_ ?_ ?_ hlen) ?_; (focus kernel_rfl))
          | (refine CWr.call (f := 30) rfl ?_ rfl (take_at _ _ _ _ ?_ ?_ ?_ hlen) (fun _ _ h => h) ?_ ?_ ?_; (focus kernel_rfl))
          | (refine AWL.callV (f := 16) rfl rfl rfl rfl ?_ (Nat.le_of_ble_eq_true rfl) rfl (get_ok _ hv1 hv2 _ _) ?_; (focus kernel_rfl))
          | (refine AWL.call (f := 16) rfl rfl rfl ?_ rfl (Nat.le_of_ble_eq_true rfl) rfl (get_ok _ hv1 hv2 _ _) ?_; (focus kernel_rfl))
          | (refine CWr.call (f := 16) rfl ?_ rfl (get_ok _ hv1 hv2 _ _) (fun _ _ h => h) ?_ ?_ ?_; (focus kernel_rfl))
          | (refine AWL.callV (f := 11) rfl rfl rfl rfl ?_ (Nat.le_of_ble_eq_true rfl) rfl (hof32) ?_; (focus kernel_rfl))
          | (refine AWL.call (f := 11) rfl rfl rfl ?_ rfl (Nat.le_of_ble_eq_true rfl) rfl (hof32) ?_; (focus kernel_rfl))
          | (refine CWr.call (f := 11) rfl ?_ rfl (hof32) (fun _ _ h => h) ?_ ?_ ?_; (focus kernel_rfl))
          | (refine AWL.callV (f := 11) rfl rfl rfl rfl ?_ (Nat.le_of_ble_eq_true rfl) rfl (hof64) ?_; (focus kernel_rfl))
          | (refine AWL.call (f := 11) rfl rfl rfl ?_ rfl (Nat.le_of_ble_eq_true rfl) rfl (hof64) ?_; (focus kernel_rfl))
          | (refine CWr.call (f := 11) rfl ?_ rfl (hof64) (fun _ _ h => h) ?_ ?_ ?_; (focus kernel_rfl))
          | fail) <;> (try ((first | show AWL _ _ _ _ _ | show AW _ _ _ _ | show FW _ _ _ _ _ _ _ _ _ _ | show CW _ _ _ _ _ _ _ _ _ _ _ _ | (rintro _ _ ⟨rfl, rfl⟩; (try refine And.intro rfl ?_))); (try (conv => arg -1; simp (disch := omega) only [NSX, Nat.reduceBEq, Nat.reduceAdd, Nat.reduceMul, Int.reduceToNat, Nat.reduceSub, TY, slx, take16, drop16, dz, nums_length, B1, B2, e5, e6, h1])))))
        | ((first | refine AWL.guard2 rfl rfl rfl rfl rfl rfl ?_ ?_ | refine CW.guard2 rfl rfl rfl rfl rfl rfl rfl rfl ?_ ?_) <;> (intro hc; (try simp only [Bool.not_true, Bool.not_false] at hc); first | (cases hc; done) | ((try simp only [hc]); (try simp only [beq_iff_eq, bne_iff_ne, decide_eq_true_eq, decide_eq_false_iff_not, beq_eq_false_iff_ne, bne_eq_false_iff_eq, ne_eq, Bool.not_eq_true, Bool.not_eq_false, Bool.not_eq_eq_eq_not, Bool.not_true, Bool.not_false, Decidable.not_not, Int.not_lt, Int.not_le] at hc); (try (exfalso; omega)); (try (guard_hyp hc : True; clear hc)))) <;> (try (first | (with_reducible show AWL _ _ _ _ (St.put _ _ _)) | (with_reducible show CW _ _ _ _ _ _ _ _ _ _ _ (St.put _ _ _))); (try (conv => arg -1; simp (disch := omega) only [NSX, Nat.reduceBEq, Nat.reduceAdd, Nat.reduceMul, Int.reduceToNat, Nat.reduceSub, TY, slx, take16, drop16, dz, nums_length, B1, B2, e5, e6, h1]))))
        | (refine AWL.guard2 rfl rfl rfl rfl rfl rfl (fun hc => ?_) ?_; (cases hc; done))
        | ((first | ((show AW _ (.region _ _ true) _ _); refine AW.calm false [] [] hmix (by (repeat' (first | exact panOk_end | exact panOk_endM | refine panOk_then ?_ | refine panOk_block ?_ | refine QEq.pan (by assumption) ?_))) ?_ rfl ?_; (focus (as_aux_lemma => kernel_rfl))) | refine AWL.guardU rfl rfl rfl rfl rfl rfl ?_ | refine CW.guardU rfl rfl rfl rfl rfl rfl rfl rfl ?_); (try (conv => arg -1; simp (disch := omega) only [NSX, Nat.reduceBEq, Nat.reduceAdd, Nat.reduceMul, Int.reduceToNat, Nat.reduceSub, TY, slx, take16, drop16, dz, nums_length, B1, B2, e5, e6, h1])))
        | refine CW.tail rfl ?_
        | (refine AW.cond rfl (fun hc => ?_) (fun hc => ?_) <;> first | (cases hc; done) | ((try simp only [beq_iff_eq, bne_iff_ne, decide_eq_true_eq, decide_eq_false_iff_not, beq_eq_false_iff_ne, bne_eq_false_iff_eq, ne_eq, Bool.not_eq_true, Bool.not_eq_false, Bool.not_eq_eq_eq_not, Bool.not_true, Bool.not_false, Decidable.not_not, Int.not_lt, Int.not_le] at hc); (try (exfalso; omega)); (try (guard_hyp hc : True; clear hc))))
        | ((refine EndQ.mk rfl rfl rfl ?_ ?_ ?_; (focus (first | exact Or.inl rfl | exact Or.inr rfl))) <;> (try simp (disch := omega) only [NSX, Nat.reduceBEq, Nat.reduceAdd, Nat.reduceMul, Int.reduceToNat, Nat.reduceSub, TY, slx, take16, drop16, dz, nums_length, B1, B2, e5, e6, h1]))
        | (focus ((first | exact trivial | omega | (refine And.intro (by kernel_rfl) (And.intro ⟨_, (by first | exact nums_ints _ _ | rfl), (by first | exact nums_ints _ _ | rfl)⟩ (And.intro ?_ ?_)) <;> (first | rfl | assumption | (simp only [nums_length]; omega) | omega)) | (refine And.intro ?_ (And.intro ?_ ?_); (focus kernel_rfl); (focus kernel_rfl); (focus kernel_rfl)) | ((show newKs _ _ _ = true); kernel_rfl) | ((show FitV _ _ _ _ _ _); (repeat' (first | exact trivial | exact Or.inr (Or.inl rfl) | exact Or.inl rfl | exact Or.inr (Or.inr rfl) | refine And.intro ?_ ?_)); done) | assumption | ((first | refine ld_nums i3 _ _ ?_ | refine ld_nums i29 _ _ ?_ | refine ld_nums i5 _ _ ?_ | refine at_nums i3 _ _ ?_ | refine at_nums i29 _ _ ?_ | refine at_nums i5 _ _ ?_); first | assumption | omega | (simp only [List.length_append]; omega)) | (simp only [List.length_append, List.length_cons, List.length_nil, Nat.zero_add]; done) | exact hu0 | exact hu1 | exact hu2 | exact hu3 | (show _ ≤ _; omega) | (simp only [List.length_take, List.length_drop, List.length_append, List.length_cons, List.length_nil]; omega) | ((repeat' (first | exact trivial | exact rfl | exact Nat.le_of_ble_eq_true rfl | refine And.intro ?_ ?_ | fail)); done) | ((try simp (disch := omega) only [NSX, Nat.reduceBEq, Nat.reduceAdd, Nat.reduceMul, Int.reduceToNat, Nat.reduceSub, TY, slx, take16, drop16, dz, nums_length, B1, B2, e5, e6, h1]); (repeat' (first | exact trivial | exact rfl | exact ⟨_, _, rfl⟩ | exact ⟨_, rfl⟩ | exact Nat.le_of_ble_eq_true rfl | exact Nat.zero_lt_succ _ | omega | (simp only [nums_length, toB_len] at *; omega) | refine And.intro ?_ ?_ | fail)); done)); done))
        | fail)
      all_goals try simp (disch := omega) only [NSX, Nat.reduceBEq, Nat.reduceAdd, Nat.reduceMul, Int.reduceToNat, Nat.reduceSub, TY, slx, take16, drop16, dz, nums_length, B1, B2, e5, e6, h1]
      all_goals first
        | exact ⟨ts.length - (k + 1), by omega, k + 1, rfl, by omega, rfl, hos (by decide)⟩
        | (exfalso; omega) | trace_state
    · rw [okTs_at hkn h0] at hok; cases hok
  · have hT : ts.take k = ts := List.take_of_length_le (by omega)
    have hchk : True := by simp only [TY, slx, take16, drop16, dz, nums_length, B1, B2]
    repeat' (first
      | (refine AWL.opN (sl := SL) rfl rfl rfl trivial ?_; (try (conv => arg -1; simp (disch := omega) only [NSX, Nat.reduceBEq, Nat.reduceAdd, Nat.reduceMul, Int.reduceToNat, Nat.reduceSub, TY, slx, take16, drop16, dz, nums_length, B1, B2])))
      | (refine AW.seqQ ?_; intro Qn hQn)
      | (refine AW.blockQ ?_; intro Qn hQn)
      | refine AW.region ?_
      | ((first | refine AW.skip ?_ | refine AW.ret ?_ | refine AW.exit ?_ | refine AWL.nil ?_ | refine CW.nil ?_); (repeat (first | refine QEq.mp (by assumption) ?_ | simp only [thenQ, Go.Abs.blockQ, ↓reduceIte, Nat.reduceEqDiff])))
      | refine FW.nil ?_
      | refine FW.pass rfl rfl ?_
      | refine FW.go rfl ?_
      | refine CW.skip rfl rfl ?_
      | refine CW.step rfl rfl rfl rfl rfl ?_
      | ((first
        | (refine AWL.boxF (t := 25) rfl rfl rfl rfl rfl ?_)
        | (refine AWL.allocF (t := 25) rfl rfl rfl rfl rfl rfl ?_)
        | (refine CWr.allocF (t := 25) rfl rfl rfl ?_ ?_)
        | (refine AWL.op (sl := SL) rfl rfl ?_ ?_)
        | (refine FW.float rfl rfl rfl rfl rfl ?_)
        | (refine CWr.op rfl ?_ ?_ ?_)
        | (refine CWr.assign rfl ?_ ?_)
        | (refine CWr.alloc rfl rfl rfl rfl ?_)
        | (refine CWr.build rfl rfl rfl rfl ?_ rfl rfl rfl ?_)
        | ((show AWL _ _ ({ dst := _, op := _, type := _, pos := _, after := _, guard := none } :: _) _ _); refine AWL.frzA rfl rfl ?_)
        | (refine AWL.callV (f := 10) rfl rfl rfl rfl ?_ (Nat.le_of_ble_eq_true rfl) rfl (awake_ok) ?_; (focus kernel_rfl))
        | (refine AWL.call (f := 10) rfl rfl rfl ?_ rfl (Nat.le_of_ble_eq_true rfl) rfl (awake_ok) ?_; (focus kernel_rfl))
        | (refine CWr.call (f := 10) rfl ?_ rfl (awake_ok) (fun _ _ h => h) ?_ ?_ ?_; (focus kernel_rfl))
        | (refine AWL.callV (f := 28) rfl rfl rfl rfl ?_ (Nat.le_of_ble_eq_true rfl) rfl (hput) ?_; (focus kernel_rfl))
        | (refine AWL.call (f := 28) rfl rfl rfl ?_ rfl (Nat.le_of_ble_eq_true rfl) rfl (hput) ?_; (focus kernel_rfl))
        | (refine CWr.call (f := 28) rfl ?_ rfl (hput) (fun _ _ h => h) ?_ ?_ ?_; (focus kernel_rfl))
        | (refine AWL.callV (f := 30) rfl rfl rfl rfl ?_ (Nat.le_of_ble_eq_true rfl) rfl (htake0) ?_; (focus kernel_rfl))
        | (refine AWL.call (f := 30) rfl rfl rfl ?_ rfl (Nat.le_of_ble_eq_true rfl) rfl (htake0) ?_; (focus kernel_rfl))
        | (refine CWr.call (f := 30) rfl ?_ rfl (htake0) (fun _ _ h => h) ?_ ?_ ?_; (focus kernel_rfl))
        | (refine AWL.callV (f := 30) rfl rfl rfl rfl ?_ (Nat.le_of_ble_eq_true rfl) rfl (take_at _ _ _ _ ?_ ?_ ?_ hlen) ?_; (focus kernel_rfl))
        | (refine AWL.call (f := 30) rfl rfl rfl ?_ rfl (Nat.le_of_ble_eq_true rfl) rfl (take_at _ _ _ _ ?_ ?_ ?_ hlen) ?_; (focus kernel_rfl))
        | (refine CWr.call (f := 30) rfl ?_ rfl (take_at _ _ _ _ ?_ ?_ ?_ hlen) (fun _ _ h => h) ?_ ?_ ?_; (focus kernel_rfl))
        | (refine AWL.callV (f := 16) rfl rfl rfl rfl ?_ (Nat.le_of_ble_eq_true rfl) rfl (get_ok _ hv1 hv2 _ _) ?_; (focus kernel_rfl))
        | (refine AWL.call (f := 16) rfl rfl rfl ?_ rfl (Nat.le_of_ble_eq_true rfl) rfl (get_ok _ hv1 hv2 _ _) ?_; (focus kernel_rfl))
        | (refine CWr.call (f := 16) rfl ?_ rfl (get_ok _ hv1 hv2 _ _) (fun _ _ h => h) ?_ ?_ ?_; (focus kernel_rfl))
        | (refine AWL.callV (f := 11) rfl rfl rfl rfl ?_ (Nat.le_of_ble_eq_true rfl) rfl (hof32) ?_; (focus kernel_rfl))
        | (refine AWL.call (f := 11) rfl rfl rfl ?_ rfl (Nat.le_of_ble_eq_true rfl) rfl (hof32) ?_; (focus kernel_rfl))
        | (refine CWr.call (f := 11) rfl ?_ rfl (hof32) (fun _ _ h => h) ?_ ?_ ?_; (focus kernel_rfl))
        | (refine AWL.callV (f := 11) rfl rfl rfl rfl ?_ (Nat.le_of_ble_eq_true rfl) rfl (hof64) ?_; (focus kernel_rfl))
        | (refine AWL.call (f := 11) rfl rfl rfl ?_ rfl (Nat.le_of_ble_eq_true rfl) rfl (hof64) ?_; (focus kernel_rfl))
        | (refine CWr.call (f := 11) rfl ?_ rfl (hof64) (fun _ _ h => h) ?_ ?_ ?_; (focus kernel_rfl))
        | fail) <;> (try ((first | show AWL _ _ _ _ _ | show AW _ _ _ _ | show FW _ _ _ _ _ _ _ _ _ _ | show CW _ _ _ _ _ _ _ _ _ _ _ _ | (rintro _ _ ⟨rfl, rfl⟩; (try refine And.intro rfl ?_))); (try (conv => arg -1; simp (disch := omega) only [NSX, Nat.reduceBEq, Nat.reduceAdd, Nat.reduceMul, Int.reduceToNat, Nat.reduceSub, TY, slx, take16, drop16, dz, nums_length, B1, B2])))))
      | ((first | refine AWL.guard2 rfl rfl rfl rfl rfl rfl ?_ ?_ | refine CW.guard2 rfl rfl rfl rfl rfl rfl rfl rfl ?_ ?_) <;> (intro hc; (try simp only [Bool.not_true, Bool.not_false] at hc); first | (cases hc; done) | ((try simp only [hc]); (try simp only [beq_iff_eq, bne_iff_ne, decide_eq_true_eq, decide_eq_false_iff_not, beq_eq_false_iff_ne, bne_eq_false_iff_eq, ne_eq, Bool.not_eq_true, Bool.not_eq_false, Bool.not_eq_eq_eq_not, Bool.not_true, Bool.not_false, Decidable.not_not, Int.not_lt, Int.not_le] at hc); (try (exfalso; omega)); (try (guard_hyp hc : True; clear hc)))) <;> (try (first | (with_reducible show AWL _ _ _ _ (St.put _ _ _)) | (with_reducible show CW _ _ _ _ _ _ _ _ _ _ _ (St.put _ _ _))); (try (conv => arg -1; simp (disch := omega) only [NSX, Nat.reduceBEq, Nat.reduceAdd, Nat.reduceMul, Int.reduceToNat, Nat.reduceSub, TY, slx, take16, drop16, dz, nums_length, B1, B2]))))
      | (refine AWL.guard2 rfl rfl rfl rfl rfl rfl (fun hc => ?_) ?_; (cases hc; done))
      | ((first | ((show AW _ (.region _ _ true) _ _); refine AW.calm false [] [] hmix (by (repeat' (first | exact panOk_end | exact panOk_endM | refine panOk_then ?_ | refine panOk_block ?_ | refine QEq.pan (by assumption) ?_))) ?_ rfl ?_; (focus (as_aux_lemma => kernel_rfl))) | refine AWL.guardU rfl rfl rfl rfl rfl rfl ?_ | refine CW.guardU rfl rfl rfl rfl rfl rfl rfl rfl ?_); (try (conv => arg -1; simp (disch := omega) only [NSX, Nat.reduceBEq, Nat.reduceAdd, Nat.reduceMul, Int.reduceToNat, Nat.reduceSub, TY, slx, take16, drop16, dz, nums_length, B1, B2])))
      | refine CW.tail rfl ?_
      | (refine AW.cond rfl (fun hc => ?_) (fun hc => ?_) <;> first | (cases hc; done) | ((try simp only [beq_iff_eq, bne_iff_ne, decide_eq_true_eq, decide_eq_false_iff_not, beq_eq_false_iff_ne, bne_eq_false_iff_eq, ne_eq, Bool.not_eq_true, Bool.not_eq_false, Bool.not_eq_eq_eq_not, Bool.not_true, Bool.not_false, Decidable.not_not, Int.not_lt, Int.not_le] at hc); (try (exfalso; omega)); (try (guard_hyp hc : True; clear hc))))
      | ((refine EndQ.mk rfl rfl rfl ?_ ?_ ?_; (focus (first | exact Or.inl rfl | exact Or.inr rfl))) <;> (try simp (disch := omega) only [NSX, Nat.reduceBEq, Nat.reduceAdd, Nat.reduceMul, Int.reduceToNat, Nat.reduceSub, TY, slx, take16, drop16, dz, nums_length, B1, B2]))
      | (focus ((first | exact trivial | omega | (refine And.intro (by kernel_rfl) (And.intro ⟨_, (by first | exact nums_ints _ _ | rfl), (by first | exact nums_ints _ _ | rfl)⟩ (And.intro ?_ ?_)) <;> (first | rfl | assumption | (simp only [nums_length]; omega) | omega)) | (refine And.intro ?_ (And.intro ?_ ?_); (focus kernel_rfl); (focus kernel_rfl); (focus kernel_rfl)) | ((show newKs _ _ _ = true); kernel_rfl) | ((show FitV _ _ _ _ _ _); (repeat' (first | exact trivial | exact Or.inr (Or.inl rfl) | exact Or.inl rfl | exact Or.inr (Or.inr rfl) | refine And.intro ?_ ?_)); done) | assumption | ((first | refine ld_nums i3 _ _ ?_ | refine ld_nums i29 _ _ ?_ | refine ld_nums i5 _ _ ?_ | refine at_nums i3 _ _ ?_ | refine at_nums i29 _ _ ?_ | refine at_nums i5 _ _ ?_); first | assumption | omega | (simp only [List.length_append]; omega)) | (simp only [List.length_append, List.length_cons, List.length_nil, Nat.zero_add]; done) | exact hu0 | exact hu1 | exact hu2 | exact hu3 | (show _ ≤ _; omega) | (simp only [List.length_take, List.length_drop, List.length_append, List.length_cons, List.length_nil]; omega) | ((repeat' (first | exact trivial | exact rfl | exact Nat.le_of_ble_eq_true rfl | refine And.intro ?_ ?_ | fail)); done) | ((try simp (disch := omega) only [NSX, Nat.reduceBEq, Nat.reduceAdd, Nat.reduceMul, Int.reduceToNat, Nat.reduceSub, TY, slx, take16, drop16, dz, nums_length, B1, B2]); (repeat' (first | exact trivial | exact rfl | exact ⟨_, _, rfl⟩ | exact ⟨_, rfl⟩ | exact Nat.le_of_ble_eq_true rfl | exact Nat.zero_lt_succ _ | omega | (simp only [nums_length, toB_len] at *; omega) | refine And.intro ?_ ?_ | fail)); done)); done))
      | fail)
    all_goals first | exact ⟨trivial, trivial⟩ | exact ⟨rfl, trivial⟩ | exact ⟨rfl, rfl⟩ | exact ⟨trivial, rfl⟩ | (exfalso; omega) | trace_state
set_option maxRecDepth 8000 in
set_option maxHeartbeats 25600000 in
theorem pairBack_yes (ts : List Int) (vs : List (List Int)) (hv : vecs vs) (hlen : ts.length ≤ 1048576) (hok : okTs ts = true) (hl : ts.length = vs.length) :
    AC Try.prog 8 [.view ts.length 1 (nums .i64 ts), .view vs.length 16 (vecC vs)] (fun r m => r = .bool true ∧ m = []) := by
  have hput := put_ok ts vs hv hlen
  rw [put_yes ts vs hok hl] at hput
  have hXl := putL_len ts vs hok hl
  have hu1 := putL_u64 ts vs hv
  have hu0 : u64s [] := by intro x hx; cases hx
  have hT1 := take_back ts vs hok hl hv
  have hcv := cutL_vecs ts vs hv
  have hcl := cutL_len ts vs hl
  have hca := cutL_at ts vs hl
  obtain ⟨C, hC⟩ : ∃ C, cutL ts vs = C := ⟨_, rfl⟩
  rw [hC] at hT1 hcv hcl hca
  generalize putL ts vs = X at hput hXl hu1 hT1
  have hw := widthL_le ts
  have hT2 : takeR ts (X ++ [1]) [] = ([], 1) := take_not ts _ (fun h => by have := h.2; simp at this; omega)
  have hu2 : u64s (X ++ [1]) := by
    intro x hx
    rcases List.mem_append.1 hx with hx | hx
    · exact hu1 x hx
    · rw [List.mem_singleton.1 hx]; exact ⟨by decide, by decide⟩
  have hu3 : u64s (X.take (widthL ts - 1)) := fun x hx => hu1 x (List.mem_of_mem_take hx)
  have hT3 : widthL ts ≠ 0 → takeR ts (X.take (widthL ts - 1)) [] = ([], 1) := fun h0 => take_not ts _ (fun h => by have := h.2; rw [List.length_take] at this; omega)
  have hXt : X.take X.length = X := List.take_length
  have hXt2 : (X ++ [1]).take (X.length + 1) = X ++ [1] := List.take_of_length_le (by simp)
  have hcc := vecC_len hcv
  have hv1 : True := trivial
  have hv2 : True := trivial
  have hof32 : True := trivial
  have htake0 : True := trivial
  have hof64 : True := trivial
  refine AC.enter Try.func8 rfl (Nat.le_of_ble_eq_true rfl) ?_
  simp only [Try.f8]
  have hchk : True := by simp only [TY, slx, take16, drop16, dz, nums_length, B1, B2]
  repeat' (first
    | (refine AWL.opN (sl := SL) rfl rfl rfl trivial ?_; (try (conv => arg -1; simp (disch := omega) only [NSX, Nat.reduceBEq, Nat.reduceAdd, Nat.reduceMul, Int.reduceToNat, Nat.reduceSub, TY, slx, take16, drop16, dz, nums_length, B1, B2])))
    | (refine AW.seqQ ?_; intro Qn hQn)
    | (refine AW.blockQ ?_; intro Qn hQn)
    | refine AW.region ?_
    | ((first | refine AW.skip ?_ | refine AW.ret ?_ | refine AW.exit ?_ | refine AWL.nil ?_ | refine CW.nil ?_); (repeat (first | refine QEq.mp (by assumption) ?_ | simp only [thenQ, Go.Abs.blockQ, ↓reduceIte, Nat.reduceEqDiff])))
    | refine FW.nil ?_
    | refine FW.pass rfl rfl ?_
    | refine FW.go rfl ?_
    | refine CW.skip rfl rfl ?_
    | refine CW.step rfl rfl rfl rfl rfl ?_
    | ((first
      | (refine AWL.boxF (t := 25) rfl rfl rfl rfl rfl ?_)
      | (refine AWL.allocF (t := 25) rfl rfl rfl rfl rfl rfl ?_)
      | (refine CWr.allocF (t := 25) rfl rfl rfl ?_ ?_)
      | (refine AWL.op (sl := SL) rfl rfl ?_ ?_)
      | (refine FW.float rfl rfl rfl rfl rfl ?_)
      | (refine CWr.op rfl ?_ ?_ ?_)
      | (refine CWr.assign rfl ?_ ?_)
      | (refine CWr.alloc rfl rfl rfl rfl ?_)
      | (refine CWr.build rfl rfl rfl rfl ?_ rfl rfl rfl ?_)
      | ((show AWL _ _ ({ dst := _, op := _, type := _, pos := _, after := _, guard := none } :: _) _ _); refine AWL.frzA rfl rfl ?_)
      | (refine AWL.callV (f := 10) rfl rfl rfl rfl ?_ (Nat.le_of_ble_eq_true rfl) rfl (awake_ok) ?_; (focus kernel_rfl))
      | (refine AWL.call (f := 10) rfl rfl rfl ?_ rfl (Nat.le_of_ble_eq_true rfl) rfl (awake_ok) ?_; (focus kernel_rfl))
      | (refine CWr.call (f := 10) rfl ?_ rfl (awake_ok) (fun _ _ h => h) ?_ ?_ ?_; (focus kernel_rfl))
      | (refine AWL.callV (f := 28) rfl rfl rfl rfl ?_ (Nat.le_of_ble_eq_true rfl) rfl (hput) ?_; (focus kernel_rfl))
      | (refine AWL.call (f := 28) rfl rfl rfl ?_ rfl (Nat.le_of_ble_eq_true rfl) rfl (hput) ?_; (focus kernel_rfl))
      | (refine CWr.call (f := 28) rfl ?_ rfl (hput) (fun _ _ h => h) ?_ ?_ ?_; (focus kernel_rfl))
      | (refine AWL.callV (f := 30) rfl rfl rfl rfl ?_ (Nat.le_of_ble_eq_true rfl) rfl (htake0) ?_; (focus kernel_rfl))
      | (refine AWL.call (f := 30) rfl rfl rfl ?_ rfl (Nat.le_of_ble_eq_true rfl) rfl (htake0) ?_; (focus kernel_rfl))
      | (refine CWr.call (f := 30) rfl ?_ rfl (htake0) (fun _ _ h => h) ?_ ?_ ?_; (focus kernel_rfl))
      | (refine AWL.callV (f := 30) rfl rfl rfl rfl ?_ (Nat.le_of_ble_eq_true rfl) rfl (take_at _ _ _ _ ?_ ?_ ?_ hlen) ?_; (focus kernel_rfl))
      | (refine AWL.call (f := 30) rfl rfl rfl ?_ rfl (Nat.le_of_ble_eq_true rfl) rfl (take_at _ _ _ _ ?_ ?_ ?_ hlen) ?_; (focus kernel_rfl))
      | (refine CWr.call (f := 30) rfl ?_ rfl (take_at _ _ _ _ ?_ ?_ ?_ hlen) (fun _ _ h => h) ?_ ?_ ?_; (focus kernel_rfl))
      | (refine AWL.callV (f := 16) rfl rfl rfl rfl ?_ (Nat.le_of_ble_eq_true rfl) rfl (get_ok _ hv1 hv2 _ _) ?_; (focus kernel_rfl))
      | (refine AWL.call (f := 16) rfl rfl rfl ?_ rfl (Nat.le_of_ble_eq_true rfl) rfl (get_ok _ hv1 hv2 _ _) ?_; (focus kernel_rfl))
      | (refine CWr.call (f := 16) rfl ?_ rfl (get_ok _ hv1 hv2 _ _) (fun _ _ h => h) ?_ ?_ ?_; (focus kernel_rfl))
      | (refine AWL.callV (f := 11) rfl rfl rfl rfl ?_ (Nat.le_of_ble_eq_true rfl) rfl (hof32) ?_; (focus kernel_rfl))
      | (refine AWL.call (f := 11) rfl rfl rfl ?_ rfl (Nat.le_of_ble_eq_true rfl) rfl (hof32) ?_; (focus kernel_rfl))
      | (refine CWr.call (f := 11) rfl ?_ rfl (hof32) (fun _ _ h => h) ?_ ?_ ?_; (focus kernel_rfl))
      | (refine AWL.callV (f := 11) rfl rfl rfl rfl ?_ (Nat.le_of_ble_eq_true rfl) rfl (hof64) ?_; (focus kernel_rfl))
      | (refine AWL.call (f := 11) rfl rfl rfl ?_ rfl (Nat.le_of_ble_eq_true rfl) rfl (hof64) ?_; (focus kernel_rfl))
      | (refine CWr.call (f := 11) rfl ?_ rfl (hof64) (fun _ _ h => h) ?_ ?_ ?_; (focus kernel_rfl))
      | fail) <;> (try ((first | show AWL _ _ _ _ _ | show AW _ _ _ _ | show FW _ _ _ _ _ _ _ _ _ _ | show CW _ _ _ _ _ _ _ _ _ _ _ _ | (rintro _ _ ⟨rfl, rfl⟩; (try refine And.intro rfl ?_))); (try (conv => arg -1; simp (disch := omega) only [NSX, Nat.reduceBEq, Nat.reduceAdd, Nat.reduceMul, Int.reduceToNat, Nat.reduceSub, TY, slx, take16, drop16, dz, nums_length, B1, B2])))))
    | ((first | refine AWL.guard2 rfl rfl rfl rfl rfl rfl ?_ ?_ | refine CW.guard2 rfl rfl rfl rfl rfl rfl rfl rfl ?_ ?_) <;> (intro hc; (try simp only [Bool.not_true, Bool.not_false] at hc); first | (cases hc; done) | ((try simp only [hc]); (try simp only [beq_iff_eq, bne_iff_ne, decide_eq_true_eq, decide_eq_false_iff_not, beq_eq_false_iff_ne, bne_eq_false_iff_eq, ne_eq, Bool.not_eq_true, Bool.not_eq_false, Bool.not_eq_eq_eq_not, Bool.not_true, Bool.not_false, Decidable.not_not, Int.not_lt, Int.not_le] at hc); (try (exfalso; omega)); (try (guard_hyp hc : True; clear hc)))) <;> (try (first | (with_reducible show AWL _ _ _ _ (St.put _ _ _)) | (with_reducible show CW _ _ _ _ _ _ _ _ _ _ _ (St.put _ _ _))); (try (conv => arg -1; simp (disch := omega) only [NSX, Nat.reduceBEq, Nat.reduceAdd, Nat.reduceMul, Int.reduceToNat, Nat.reduceSub, TY, slx, take16, drop16, dz, nums_length, B1, B2]))))
    | (refine AWL.guard2 rfl rfl rfl rfl rfl rfl (fun hc => ?_) ?_; (cases hc; done))
    | ((first | ((show AW _ (.region _ _ true) _ _); refine AW.calm false [] [] hmix (by (repeat' (first | exact panOk_end | exact panOk_endM | refine panOk_then ?_ | refine panOk_block ?_ | refine QEq.pan (by assumption) ?_))) ?_ rfl ?_; (focus (as_aux_lemma => kernel_rfl))) | refine AWL.guardU rfl rfl rfl rfl rfl rfl ?_ | refine CW.guardU rfl rfl rfl rfl rfl rfl rfl rfl ?_); (try (conv => arg -1; simp (disch := omega) only [NSX, Nat.reduceBEq, Nat.reduceAdd, Nat.reduceMul, Int.reduceToNat, Nat.reduceSub, TY, slx, take16, drop16, dz, nums_length, B1, B2])))
    | refine CW.tail rfl ?_
    | (refine AW.cond rfl (fun hc => ?_) (fun hc => ?_) <;> first | (cases hc; done) | ((try simp only [beq_iff_eq, bne_iff_ne, decide_eq_true_eq, decide_eq_false_iff_not, beq_eq_false_iff_ne, bne_eq_false_iff_eq, ne_eq, Bool.not_eq_true, Bool.not_eq_false, Bool.not_eq_eq_eq_not, Bool.not_true, Bool.not_false, Decidable.not_not, Int.not_lt, Int.not_le] at hc); (try (exfalso; omega)); (try (guard_hyp hc : True; clear hc))))
    | ((refine EndQ.mk rfl rfl rfl ?_ ?_ ?_; (focus (first | exact Or.inl rfl | exact Or.inr rfl))) <;> (try simp (disch := omega) only [NSX, Nat.reduceBEq, Nat.reduceAdd, Nat.reduceMul, Int.reduceToNat, Nat.reduceSub, TY, slx, take16, drop16, dz, nums_length, B1, B2]))
    | (focus ((first | exact trivial | omega | (refine And.intro (by kernel_rfl) (And.intro ⟨_, (by first | exact nums_ints _ _ | rfl), (by first | exact nums_ints _ _ | rfl)⟩ (And.intro ?_ ?_)) <;> (first | rfl | assumption | (simp only [nums_length]; omega) | omega)) | (refine And.intro ?_ (And.intro ?_ ?_); (focus kernel_rfl); (focus kernel_rfl); (focus kernel_rfl)) | ((show newKs _ _ _ = true); kernel_rfl) | ((show FitV _ _ _ _ _ _); (repeat' (first | exact trivial | exact Or.inr (Or.inl rfl) | exact Or.inl rfl | exact Or.inr (Or.inr rfl) | refine And.intro ?_ ?_)); done) | assumption | ((first | refine ld_nums i3 _ _ ?_ | refine ld_nums i29 _ _ ?_ | refine ld_nums i5 _ _ ?_ | refine at_nums i3 _ _ ?_ | refine at_nums i29 _ _ ?_ | refine at_nums i5 _ _ ?_); first | assumption | omega | (simp only [List.length_append]; omega)) | (simp only [List.length_append, List.length_cons, List.length_nil, Nat.zero_add]; done) | exact hu0 | exact hu1 | exact hu2 | exact hu3 | (show _ ≤ _; omega) | (simp only [List.length_take, List.length_drop, List.length_append, List.length_cons, List.length_nil]; omega) | ((repeat' (first | exact trivial | exact rfl | exact Nat.le_of_ble_eq_true rfl | refine And.intro ?_ ?_ | fail)); done) | ((try simp (disch := omega) only [NSX, Nat.reduceBEq, Nat.reduceAdd, Nat.reduceMul, Int.reduceToNat, Nat.reduceSub, TY, slx, take16, drop16, dz, nums_length, B1, B2]); (repeat' (first | exact trivial | exact rfl | exact ⟨_, _, rfl⟩ | exact ⟨_, rfl⟩ | exact Nat.le_of_ble_eq_true rfl | exact Nat.zero_lt_succ _ | omega | (simp only [nums_length, toB_len] at *; omega) | refine And.intro ?_ ?_ | fail)); done)); done))
    | fail)
  refine AW.loop [0, 1, 5, 6, 7, 8] [5] (fun m st => ∃ k : Nat, st = B1 ts vs X 0 (widthL (ts.take k) : Nat) k ∧ k ≤ ts.length ∧ m = ts.length - k ∧ okTs (ts.take k) = true) ?_ ?_
  · exact ⟨_, 0, rfl, Nat.zero_le _, rfl, rfl⟩
  rintro m st ⟨k, rfl, hk, rfl, ho⟩
  have e5 : IntKind.i64.wrap ((k : Int) + 1) = ((k + 1 : Nat) : Int) := wrap64_id _ (by omega) (by omega)
  have hwk := widthL_le (ts.take k)
  rw [List.length_take] at hwk
  by_cases hkn : k < ts.length
  · have hsn : widthL (ts.take (k + 1)) = widthL (ts.take k) + need (ts.getD k 0) := by rw [take_snoc _ _ hkn, widthL_snoc]
    have hos : need (ts.getD k 0) ≠ 0 → okTs (ts.take (k + 1)) = true := fun h => by rw [take_snoc _ _ hkn, okTs_snoc, ho, decide_eq_true h]; rfl
    rcases need_cases (ts.getD k 0) with h1 | h1 | h1 | ⟨h0, h1, h2, h3⟩
    · rw [h1] at hsn hos
      have e6 : IntKind.i64.wrap ((widthL (ts.take k) : Int) + 1) = (widthL (ts.take (k + 1)) : Nat) := by rw [hsn, show need 127 = 1 from rfl]; exact wrap64_id _ (by omega) (by omega)
      have hchk : True := by simp only [TY, slx, take16, drop16, dz, nums_length, B1, B2, e5, e6, h1]
      repeat' (first
        | (refine AWL.opN (sl := SL) rfl rfl rfl trivial ?_; (try (conv => arg -1; simp (disch := omega) only [NSX, Nat.reduceBEq, Nat.reduceAdd, Nat.reduceMul, Int.reduceToNat, Nat.reduceSub, TY, slx, take16, drop16, dz, nums_length, B1, B2, e5, e6, h1])))
        | (refine AW.seqQ ?_; intro Qn hQn)
        | (refine AW.blockQ ?_; intro Qn hQn)
        | refine AW.region ?_
        | ((first | refine AW.skip ?_ | refine AW.ret ?_ | refine AW.exit ?_ | refine AWL.nil ?_ | refine CW.nil ?_); (repeat (first | refine QEq.mp (by assumption) ?_ | simp only [thenQ, Go.Abs.blockQ, ↓reduceIte, Nat.reduceEqDiff])))
        | refine FW.nil ?_
        | refine FW.pass rfl rfl ?_
        | refine FW.go rfl ?_
        | refine CW.skip rfl rfl ?_
        | refine CW.step rfl rfl rfl rfl rfl ?_
        | ((first
          | (refine AWL.boxF (t := 25) rfl rfl rfl rfl rfl ?_)
          | (refine AWL.allocF (t := 25) rfl rfl rfl rfl rfl rfl ?_)
          | (refine CWr.allocF (t := 25) rfl rfl rfl ?_ ?_)
          | (refine AWL.op (sl := SL) rfl rfl ?_ ?_)
          | (refine FW.float rfl rfl rfl rfl rfl ?_)
          | (refine CWr.op rfl ?_ ?_ ?_)
          | (refine CWr.assign rfl ?_ ?_)
          | (refine CWr.alloc rfl rfl rfl rfl ?_)
          | (refine CWr.build rfl rfl rfl rfl ?_ rfl rfl rfl ?_)
          | ((show AWL _ _ ({ dst := _, op := _, type := _, pos := _, after := _, guard := none } :: _) _ _); refine AWL.frzA rfl rfl ?_)
          | (refine AWL.callV (f := 10) rfl rfl rfl rfl ?_ (Nat.le_of_ble_eq_true rfl) rfl (awake_ok) ?_; (focus kernel_rfl))
          | (refine AWL.call (f := 10) rfl rfl rfl ?_ rfl (Nat.le_of_ble_eq_true rfl) rfl (awake_ok) ?_; (focus kernel_rfl))
          | (refine CWr.call (f := 10) rfl ?_ rfl (awake_ok) (fun _ _ h => h) ?_ ?_ ?_; (focus kernel_rfl))
          | (refine AWL.callV (f := 28) rfl rfl rfl rfl ?_ (Nat.le_of_ble_eq_true rfl) rfl (hput) ?_; (focus kernel_rfl))
          | (refine AWL.call (f := 28) rfl rfl rfl ?_ rfl (Nat.le_of_ble_eq_true rfl) rfl (hput) ?_; (focus kernel_rfl))
          | (refine CWr.call (f := 28) rfl ?_ rfl (hput) (fun _ _ h => h) ?_ ?_ ?_; (focus kernel_rfl))
          | (refine AWL.callV (f := 30) rfl rfl rfl rfl ?_ (Nat.le_of_ble_eq_true rfl) rfl (htake0) ?_; (focus kernel_rfl))
          | (refine AWL.call (f := 30) rfl rfl rfl ?_ rfl (Nat.le_of_ble_eq_true rfl) rfl (htake0) ?_; (focus kernel_rfl))
          | (refine CWr.call (f := 30) rfl ?_ rfl (htake0) (fun _ _ h => h) ?_ ?_ ?_; (focus kernel_rfl))
          | (refine AWL.callV (f := 30) rfl rfl rfl rfl ?_ (Nat.le_of_ble_eq_true rfl) rfl (take_at _ _ _ _ ?_ ?_ ?_ hlen) ?_; (focus kernel_rfl))
          | (refine AWL.call (f := 30) rfl rfl rfl ?_ rfl (Nat.le_of_ble_eq_true rfl) rfl (take_at _ _ _ _ ?_ ?_ ?_ hlen) ?_; (focus kernel_rfl))
          | (refine CWr.call (f := 30) rfl ?_ rfl (take_at _ _ _ _ ?_ ?_ ?_ hlen) (fun _ _ h => h) ?_ ?_ ?_; (focus kernel_rfl))
          | (refine AWL.callV (f := 16) rfl rfl rfl rfl ?_ (Nat.le_of_ble_eq_true rfl) rfl (get_ok _ hv1 hv2 _ _) ?_; (focus kernel_rfl))
          | (refine AWL.call (f := 16) rfl rfl rfl ?_ rfl (Nat.le_of_ble_eq_true rfl) rfl (get_ok _ hv1 hv2 _ _) ?_; (focus kernel_rfl))
          | (refine CWr.call (f := 16) rfl ?_ rfl (get_ok _ hv1 hv2 _ _) (fun _ _ h => h) ?_ ?_ ?_; (focus kernel_rfl))
          | (refine AWL.callV (f := 11) rfl rfl rfl rfl ?_ (Nat.le_of_ble_eq_true rfl) rfl (hof32) ?_; (focus kernel_rfl))
          | (refine AWL.call (f := 11) rfl rfl rfl ?_ rfl (Nat.le_of_ble_eq_true rfl) rfl (hof32) ?_; (focus kernel_rfl))
          | (refine CWr.call (f := 11) rfl ?_ rfl (hof32) (fun _ _ h => h) ?_ ?_ ?_; (focus kernel_rfl))
          | (refine AWL.callV (f := 11) rfl rfl rfl rfl ?_ (Nat.le_of_ble_eq_true rfl) rfl (hof64) ?_; (focus kernel_rfl))
          | (refine AWL.call (f := 11) rfl rfl rfl ?_ rfl (Nat.le_of_ble_eq_true rfl) rfl (hof64) ?_; (focus kernel_rfl))
          | (refine CWr.call (f := 11) rfl ?_ rfl (hof64) (fun _ _ h => h) ?_ ?_ ?_; (focus kernel_rfl))
          | fail) <;> (try ((first | show AWL _ _ _ _ _ | show AW _ _ _ _ | show FW _ _ _ _ _ _ _ _ _ _ | show CW _ _ _ _ _ _ _ _ _ _ _ _ | (rintro _ _ ⟨rfl, rfl⟩; (try refine And.intro rfl ?_))); (try (conv => arg -1; simp (disch := omega) only [NSX, Nat.reduceBEq, Nat.reduceAdd, Nat.reduceMul, Int.reduceToNat, Nat.reduceSub, TY, slx, take16, drop16, dz, nums_length, B1, B2, e5, e6, h1])))))
        | ((first | refine AWL.guard2 rfl rfl rfl rfl rfl rfl ?_ ?_ | refine CW.guard2 rfl rfl rfl rfl rfl rfl rfl rfl ?_ ?_) <;> (intro hc; (try simp only [Bool.not_true, Bool.not_false] at hc); first | (cases hc; done) | ((try simp only [hc]); (try simp only [beq_iff_eq, bne_iff_ne, decide_eq_true_eq, decide_eq_false_iff_not, beq_eq_false_iff_ne, bne_eq_false_iff_eq, ne_eq, Bool.not_eq_true, Bool.not_eq_false, Bool.not_eq_eq_eq_not, Bool.not_true, Bool.not_false, Decidable.not_not, Int.not_lt, Int.not_le] at hc); (try (exfalso; omega)); (try (guard_hyp hc : True; clear hc)))) <;> (try (first | (with_reducible show AWL _ _ _ _ (St.put _ _ _)) | (with_reducible show CW _ _ _ _ _ _ _ _ _ _ _ (St.put _ _ _))); (try (conv => arg -1; simp (disch := omega) only [NSX, Nat.reduceBEq, Nat.reduceAdd, Nat.reduceMul, Int.reduceToNat, Nat.reduceSub, TY, slx, take16, drop16, dz, nums_length, B1, B2, e5, e6, h1]))))
        | (refine AWL.guard2 rfl rfl rfl rfl rfl rfl (fun hc => ?_) ?_; (cases hc; done))
        | ((first | ((show AW _ (.region _ _ true) _ _); refine AW.calm false [] [] hmix (by (repeat' (first | exact panOk_end | exact panOk_endM | refine panOk_then ?_ | refine panOk_block ?_ | refine QEq.pan (by assumption) ?_))) ?_ rfl ?_; (focus (as_aux_lemma => kernel_rfl))) | refine AWL.guardU rfl rfl rfl rfl rfl rfl ?_ | refine CW.guardU rfl rfl rfl rfl rfl rfl rfl rfl ?_); (try (conv => arg -1; simp (disch := omega) only [NSX, Nat.reduceBEq, Nat.reduceAdd, Nat.reduceMul, Int.reduceToNat, Nat.reduceSub, TY, slx, take16, drop16, dz, nums_length, B1, B2, e5, e6, h1])))
        | refine CW.tail rfl ?_
        | (refine AW.cond rfl (fun hc => ?_) (fun hc => ?_) <;> first | (cases hc; done) | ((try simp only [beq_iff_eq, bne_iff_ne, decide_eq_true_eq, decide_eq_false_iff_not, beq_eq_false_iff_ne, bne_eq_false_iff_eq, ne_eq, Bool.not_eq_true, Bool.not_eq_false, Bool.not_eq_eq_eq_not, Bool.not_true, Bool.not_false, Decidable.not_not, Int.not_lt, Int.not_le] at hc); (try (exfalso; omega)); (try (guard_hyp hc : True; clear hc))))
        | ((refine EndQ.mk rfl rfl rfl ?_ ?_ ?_; (focus (first | exact Or.inl rfl | exact Or.inr rfl))) <;> (try simp (disch := omega) only [NSX, Nat.reduceBEq, Nat.reduceAdd, Nat.reduceMul, Int.reduceToNat, Nat.reduceSub, TY, slx, take16, drop16, dz, nums_length, B1, B2, e5, e6, h1]))
        | (focus ((first | exact trivial | omega | (refine And.intro (by kernel_rfl) (And.intro ⟨_, (by first | exact nums_ints _ _ | rfl), (by first | exact nums_ints _ _ | rfl)⟩ (And.intro ?_ ?_)) <;> (first | rfl | assumption | (simp only [nums_length]; omega) | omega)) | (refine And.intro ?_ (And.intro ?_ ?_); (focus kernel_rfl); (focus kernel_rfl); (focus kernel_rfl)) | ((show newKs _ _ _ = true); kernel_rfl) | ((show FitV _ _ _ _ _ _); (repeat' (first | exact trivial | exact Or.inr (Or.inl rfl) | exact Or.inl rfl | exact Or.inr (Or.inr rfl) | refine And.intro ?_ ?_)); done) | assumption | ((first | refine ld_nums i3 _ _ ?_ | refine ld_nums i29 _ _ ?_ | refine ld_nums i5 _ _ ?_ | refine at_nums i3 _ _ ?_ | refine at_nums i29 _ _ ?_ | refine at_nums i5 _ _ ?_); first | assumption | omega | (simp only [List.length_append]; omega)) | (simp only [List.length_append, List.length_cons, List.length_nil, Nat.zero_add]; done) | exact hu0 | exact hu1 | exact hu2 | exact hu3 | (show _ ≤ _; omega) | (simp only [List.length_take, List.length_drop, List.length_append, List.length_cons, List.length_nil]; omega) | ((repeat' (first | exact trivial | exact rfl | exact Nat.le_of_ble_eq_true rfl | refine And.intro ?_ ?_ | fail)); done) | ((try simp (disch := omega) only [NSX, Nat.reduceBEq, Nat.reduceAdd, Nat.reduceMul, Int.reduceToNat, Nat.reduceSub, TY, slx, take16, drop16, dz, nums_length, B1, B2, e5, e6, h1]); (repeat' (first | exact trivial | exact rfl | exact ⟨_, _, rfl⟩ | exact ⟨_, rfl⟩ | exact Nat.le_of_ble_eq_true rfl | exact Nat.zero_lt_succ _ | omega | (simp only [nums_length, toB_len] at *; omega) | refine And.intro ?_ ?_ | fail)); done)); done))
        | fail)
      all_goals try simp (disch := omega) only [NSX, Nat.reduceBEq, Nat.reduceAdd, Nat.reduceMul, Int.reduceToNat, Nat.reduceSub, TY, slx, take16, drop16, dz, nums_length, B1, B2, e5, e6, h1]
      all_goals first
        | exact ⟨ts.length - (k + 1), by omega, k + 1, rfl, by omega, rfl, hos (by decide)⟩
        | (exfalso; omega) | trace_state
    · rw [h1] at hsn hos
      have e6 : IntKind.i64.wrap ((widthL (ts.take k) : Int) + 1) = (widthL (ts.take (k + 1)) : Nat) := by rw [hsn, show need 126 = 1 from rfl]; exact wrap64_id _ (by omega) (by omega)
      have hchk : True := by simp only [TY, slx, take16, drop16, dz, nums_length, B1, B2, e5, e6, h1]
      repeat' (first
        | (refine AWL.opN (sl := SL) rfl rfl rfl trivial ?_; (try (conv => arg -1; simp (disch := omega) only [NSX, Nat.reduceBEq, Nat.reduceAdd, Nat.reduceMul, Int.reduceToNat, Nat.reduceSub, TY, slx, take16, drop16, dz, nums_length, B1, B2, e5, e6, h1])))
        | (refine AW.seqQ ?_; intro Qn hQn)
        | (refine AW.blockQ ?_; intro Qn hQn)
        | refine AW.region ?_
        | ((first | refine AW.skip ?_ | refine AW.ret ?_ | refine AW.exit ?_ | refine AWL.nil ?_ | refine CW.nil ?_); (repeat (first | refine QEq.mp (by assumption) ?_ | simp only [thenQ, Go.Abs.blockQ, ↓reduceIte, Nat.reduceEqDiff])))
        | refine FW.nil ?_
        | refine FW.pass rfl rfl ?_
        | refine FW.go rfl ?_
        | refine CW.skip rfl rfl ?_
        | refine CW.step rfl rfl rfl rfl rfl ?_
        | ((first
          | (refine AWL.boxF (t := 25) rfl rfl rfl rfl rfl ?_)
          | (refine AWL.allocF (t := 25) rfl rfl rfl rfl rfl rfl ?_)
          | (refine CWr.allocF (t := 25) rfl rfl rfl ?_ ?_)
          | (refine AWL.op (sl := SL) rfl rfl ?_ ?_)
          | (refine FW.float rfl rfl rfl rfl rfl ?_)
          | (refine CWr.op rfl ?_ ?_ ?_)
          | (refine CWr.assign rfl ?_ ?_)
          | (refine CWr.alloc rfl rfl rfl rfl ?_)
          | (refine CWr.build rfl rfl rfl rfl ?_ rfl rfl rfl ?_)
          | ((show AWL _ _ ({ dst := _, op := _, type := _, pos := _, after := _, guard := none } :: _) _ _); refine AWL.frzA rfl rfl ?_)
          | (refine AWL.callV (f := 10) rfl rfl rfl rfl ?_ (Nat.le_of_ble_eq_true rfl) rfl (awake_ok) ?_; (focus kernel_rfl))
          | (refine AWL.call (f := 10) rfl rfl rfl ?_ rfl (Nat.le_of_ble_eq_true rfl) rfl (awake_ok) ?_; (focus kernel_rfl))
          | (refine CWr.call (f := 10) rfl ?_ rfl (awake_ok) (fun _ _ h => h) ?_ ?_ ?_; (focus kernel_rfl))
          | (refine AWL.callV (f := 28) rfl rfl rfl rfl ?_ (Nat.le_of_ble_eq_true rfl) rfl (hput) ?_; (focus kernel_rfl))
          | (refine AWL.call (f := 28) rfl rfl rfl ?_ rfl (Nat.le_of_ble_eq_true rfl) rfl (hput) ?_; (focus kernel_rfl))
          | (refine CWr.call (f := 28) rfl ?_ rfl (hput) (fun _ _ h => h) ?_ ?_ ?_; (focus kernel_rfl))
          | (refine AWL.callV (f := 30) rfl rfl rfl rfl ?_ (Nat.le_of_ble_eq_true rfl) rfl (htake0) ?_; (focus kernel_rfl))
          | (refine AWL.call (f := 30) rfl rfl rfl ?_ rfl (Nat.le_of_ble_eq_true rfl) rfl (htake0) ?_; (focus kernel_rfl))
          | (refine CWr.call (f := 30) rfl ?_ rfl (htake0) (fun _ _ h => h) ?_ ?_ ?_; (focus kernel_rfl))
          | (refine AWL.callV (f := 30) rfl rfl rfl rfl ?_ (Nat.le_of_ble_eq_true rfl) rfl (take_at _ _ _ _ ?_ ?_ ?_ hlen) ?_; (focus kernel_rfl))
          | (refine AWL.call (f := 30) rfl rfl rfl ?_ rfl (Nat.le_of_ble_eq_true rfl) rfl (take_at _ _ _ _ ?_ ?_ ?_ hlen) ?_; (focus kernel_rfl))
          | (refine CWr.call (f := 30) rfl ?_ rfl (take_at _ _ _ _ ?_ ?_ ?_ hlen) (fun _ _ h => h) ?_ ?_ ?_; (focus kernel_rfl))
          | (refine AWL.callV (f := 16) rfl rfl rfl rfl ?_ (Nat.le_of_ble_eq_true rfl) rfl (get_ok _ hv1 hv2 _ _) ?_; (focus kernel_rfl))
          | (refine AWL.call (f := 16) rfl rfl rfl ?_ rfl (Nat.le_of_ble_eq_true rfl) rfl (get_ok _ hv1 hv2 _ _) ?_; (focus kernel_rfl))
          | (refine CWr.call (f := 16) rfl ?_ rfl (get_ok _ hv1 hv2 _ _) (fun _ _ h => h) ?_ ?_ ?_; (focus kernel_rfl))
          | (refine AWL.callV (f := 11) rfl rfl rfl rfl ?_ (Nat.le_of_ble_eq_true rfl) rfl (hof32) ?_; (focus kernel_rfl))
          | (refine AWL.call (f := 11) rfl rfl rfl ?_ rfl (Nat.le_of_ble_eq_true rfl) rfl (hof32) ?_; (focus kernel_rfl))
          | (refine CWr.call (f := 11) rfl ?_ rfl (hof32) (fun _ _ h => h) ?_ ?_ ?_; (focus kernel_rfl))
          | (refine AWL.callV (f := 11) rfl rfl rfl rfl ?_ (Nat.le_of_ble_eq_true rfl) rfl (hof64) ?_; (focus kernel_rfl))
          | (refine AWL.call (f := 11) rfl rfl rfl ?_ rfl (Nat.le_of_ble_eq_true rfl) rfl (hof64) ?_; (focus kernel_rfl))
          | (refine CWr.call (f := 11) rfl ?_ rfl (hof64) (fun _ _ h => h) ?_ ?_ ?_; (focus kernel_rfl))
          | fail) <;> (try ((first | show AWL _ _ _ _ _ | show AW _ _ _ _ | show FW _ _ _ _ _ _ _ _ _ _ | show CW _ _ _ _ _ _ _ _ _ _ _ _ | (rintro _ _ ⟨rfl, rfl⟩; (try refine And.intro rfl ?_))); (try (conv => arg -1; simp (disch := omega) only [NSX, Nat.reduceBEq, Nat.reduceAdd, Nat.reduceMul, Int.reduceToNat, Nat.reduceSub, TY, slx, take16, drop16, dz, nums_length, B1, B2, e5, e6, h1])))))
        | ((first | refine AWL.guard2 rfl rfl rfl rfl rfl rfl ?_ ?_ | refine CW.guard2 rfl rfl rfl rfl rfl rfl rfl rfl ?_ ?_) <;> (intro hc; (try simp only [Bool.not_true, Bool.not_false] at hc); first | (cases hc; done) | ((try simp only [hc]); (try simp only [beq_iff_eq, bne_iff_ne, decide_eq_true_eq, decide_eq_false_iff_not, beq_eq_false_iff_ne, bne_eq_false_iff_eq, ne_eq, Bool.not_eq_true, Bool.not_eq_false, Bool.not_eq_eq_eq_not, Bool.not_true, Bool.not_false, Decidable.not_not, Int.not_lt, Int.not_le] at hc); (try (exfalso; omega)); (try (guard_hyp hc : True; clear hc)))) <;> (try (first | (with_reducible show AWL _ _ _ _ (St.put _ _ _)) | (with_reducible show CW _ _ _ _ _ _ _ _ _ _ _ (St.put _ _ _))); (try (conv => arg -1; simp (disch := omega) only [NSX, Nat.reduceBEq, Nat.reduceAdd, Nat.reduceMul, Int.reduceToNat, Nat.reduceSub, TY, slx, take16, drop16, dz, nums_length, B1, B2, e5, e6, h1]))))
        | (refine AWL.guard2 rfl rfl rfl rfl rfl rfl (fun hc => ?_) ?_; (cases hc; done))
        | ((first | ((show AW _ (.region _ _ true) _ _); refine AW.calm false [] [] hmix (by (repeat' (first | exact panOk_end | exact panOk_endM | refine panOk_then ?_ | refine panOk_block ?_ | refine QEq.pan (by assumption) ?_))) ?_ rfl ?_; (focus (as_aux_lemma => kernel_rfl))) | refine AWL.guardU rfl rfl rfl rfl rfl rfl ?_ | refine CW.guardU rfl rfl rfl rfl rfl rfl rfl rfl ?_); (try (conv => arg -1; simp (disch := omega) only [NSX, Nat.reduceBEq, Nat.reduceAdd, Nat.reduceMul, Int.reduceToNat, Nat.reduceSub, TY, slx, take16, drop16, dz, nums_length, B1, B2, e5, e6, h1])))
        | refine CW.tail rfl ?_
        | (refine AW.cond rfl (fun hc => ?_) (fun hc => ?_) <;> first | (cases hc; done) | ((try simp only [beq_iff_eq, bne_iff_ne, decide_eq_true_eq, decide_eq_false_iff_not, beq_eq_false_iff_ne, bne_eq_false_iff_eq, ne_eq, Bool.not_eq_true, Bool.not_eq_false, Bool.not_eq_eq_eq_not, Bool.not_true, Bool.not_false, Decidable.not_not, Int.not_lt, Int.not_le] at hc); (try (exfalso; omega)); (try (guard_hyp hc : True; clear hc))))
        | ((refine EndQ.mk rfl rfl rfl ?_ ?_ ?_; (focus (first | exact Or.inl rfl | exact Or.inr rfl))) <;> (try simp (disch := omega) only [NSX, Nat.reduceBEq, Nat.reduceAdd, Nat.reduceMul, Int.reduceToNat, Nat.reduceSub, TY, slx, take16, drop16, dz, nums_length, B1, B2, e5, e6, h1]))
        | (focus ((first | exact trivial | omega | (refine And.intro (by kernel_rfl) (And.intro ⟨_, (by first | exact nums_ints _ _ | rfl), (by first | exact nums_ints _ _ | rfl)⟩ (And.intro ?_ ?_)) <;> (first | rfl | assumption | (simp only [nums_length]; omega) | omega)) | (refine And.intro ?_ (And.intro ?_ ?_); (focus kernel_rfl); (focus kernel_rfl); (focus kernel_rfl)) | ((show newKs _ _ _ = true); kernel_rfl) | ((show FitV _ _ _ _ _ _); (repeat' (first | exact trivial | exact Or.inr (Or.inl rfl) | exact Or.inl rfl | exact Or.inr (Or.inr rfl) | refine And.intro ?_ ?_)); done) | assumption | ((first | refine ld_nums i3 _ _ ?_ | refine ld_nums i29 _ _ ?_ | refine ld_nums i5 _ _ ?_ | refine at_nums i3 _ _ ?_ | refine at_nums i29 _ _ ?_ | refine at_nums i5 _ _ ?_); first | assumption | omega | (simp only [List.length_append]; omega)) | (simp only [List.length_append, List.length_cons, List.length_nil, Nat.zero_add]; done) | exact hu0 | exact hu1 | exact hu2 | exact hu3 | (show _ ≤ _; omega) | (simp only [List.length_take, List.length_drop, List.length_append, List.length_cons, List.length_nil]; omega) | ((repeat' (first | exact trivial | exact rfl | exact Nat.le_of_ble_eq_true rfl | refine And.intro ?_ ?_ | fail)); done) | ((try simp (disch := omega) only [NSX, Nat.reduceBEq, Nat.reduceAdd, Nat.reduceMul, Int.reduceToNat, Nat.reduceSub, TY, slx, take16, drop16, dz, nums_length, B1, B2, e5, e6, h1]); (repeat' (first | exact trivial | exact rfl | exact ⟨_, _, rfl⟩ | exact ⟨_, rfl⟩ | exact Nat.le_of_ble_eq_true rfl | exact Nat.zero_lt_succ _ | omega | (simp only [nums_length, toB_len] at *; omega) | refine And.intro ?_ ?_ | fail)); done)); done))
        | fail)
      all_goals try simp (disch := omega) only [NSX, Nat.reduceBEq, Nat.reduceAdd, Nat.reduceMul, Int.reduceToNat, Nat.reduceSub, TY, slx, take16, drop16, dz, nums_length, B1, B2, e5, e6, h1]
      all_goals first
        | exact ⟨ts.length - (k + 1), by omega, k + 1, rfl, by omega, rfl, hos (by decide)⟩
        | (exfalso; omega) | trace_state
    · rw [h1] at hsn hos
      have e6 : IntKind.i64.wrap ((widthL (ts.take k) : Int) + 2) = (widthL (ts.take (k + 1)) : Nat) := by rw [hsn, show need 123 = 2 from rfl]; exact wrap64_id _ (by omega) (by omega)
      have hchk : True := by simp only [TY, slx, take16, drop16, dz, nums_length, B1, B2, e5, e6, h1]
      repeat' (first
        | (refine AWL.opN (sl := SL) rfl rfl rfl trivial ?_; (try (conv => arg -1; simp (disch := omega) only [NSX, Nat.reduceBEq, Nat.reduceAdd, Nat.reduceMul, Int.reduceToNat, Nat.reduceSub, TY, slx, take16, drop16, dz, nums_length, B1, B2, e5, e6, h1])))
        | (refine AW.seqQ ?_; intro Qn hQn)
        | (refine AW.blockQ ?_; intro Qn hQn)
        | refine AW.region ?_
        | ((first | refine AW.skip ?_ | refine AW.ret ?_ | refine AW.exit ?_ | refine AWL.nil ?_ | refine CW.nil ?_); (repeat (first | refine QEq.mp (by assumption) ?_ | simp only [thenQ, Go.Abs.blockQ, ↓reduceIte, Nat.reduceEqDiff])))
        | refine FW.nil ?_
        | refine FW.pass rfl rfl ?_
        | refine FW.go rfl ?_
        | refine CW.skip rfl rfl ?_
        | refine CW.step rfl rfl rfl rfl rfl ?_
        | ((first
          | (refine AWL.boxF (t := 25) rfl rfl rfl rfl rfl ?_)
          | (refine AWL.allocF (t := 25) rfl rfl rfl rfl rfl rfl ?_)
          | (refine CWr.allocF (t := 25) rfl rfl rfl ?_ ?_)
          | (refine AWL.op (sl := SL) rfl rfl ?_ ?_)
          | (refine FW.float rfl rfl rfl rfl rfl ?_)
          | (refine CWr.op rfl ?_ ?_ ?_)
          | (refine CWr.assign rfl ?_ ?_)
          | (refine CWr.alloc rfl rfl rfl rfl ?_)
          | (refine CWr.build rfl rfl rfl rfl ?_ rfl rfl rfl ?_)
          | ((show AWL _ _ ({ dst := _, op := _, type := _, pos := _, after := _, guard := none } :: _) _ _); refine AWL.frzA rfl rfl ?_)
          | (refine AWL.callV (f := 10) rfl rfl rfl rfl ?_ (Nat.le_of_ble_eq_true rfl) rfl (awake_ok) ?_; (focus kernel_rfl))
          | (refine AWL.call (f := 10) rfl rfl rfl ?_ rfl (Nat.le_of_ble_eq_true rfl) rfl (awake_ok) ?_; (focus kernel_rfl))
          | (refine CWr.call (f := 10) rfl ?_ rfl (awake_ok) (fun _ _ h => h) ?_ ?_ ?_; (focus kernel_rfl))
          | (refine AWL.callV (f := 28) rfl rfl rfl rfl ?_ (Nat.le_of_ble_eq_true rfl) rfl (hput) ?_; (focus kernel_rfl))
          | (refine AWL.call (f := 28) rfl rfl rfl ?_ rfl (Nat.le_of_ble_eq_true rfl) rfl (hput) ?_; (focus kernel_rfl))
          | (refine CWr.call (f := 28) rfl ?_ rfl (hput) (fun _ _ h => h) ?_ ?_ ?_; (focus kernel_rfl))
          | (refine AWL.callV (f := 30) rfl rfl rfl rfl ?_ (Nat.le_of_ble_eq_true rfl) rfl (htake0) ?_; (focus kernel_rfl))
          | (refine AWL.call (f := 30) rfl rfl rfl ?_ rfl (Nat.le_of_ble_eq_true rfl) rfl (htake0) ?_; (focus kernel_rfl))
          | (refine CWr.call (f := 30) rfl ?_ rfl (htake0) (fun _ _ h => h) ?_ ?_ ?_; (focus kernel_rfl))
          | (refine AWL.callV (f := 30) rfl rfl rfl rfl ?_ (Nat.le_of_ble_eq_true rfl) rfl (take_at _ _ _ _ ?_ ?_ ?_ hlen) ?_; (focus kernel_rfl))
          | (refine AWL.call (f := 30) rfl rfl rfl ?_ rfl (Nat.le_of_ble_eq_true rfl) rfl (take_at _ _ _ _ ?_ ?_ ?_ hlen) ?_; (focus kernel_rfl))
          | (refine CWr.call (f := 30) rfl ?_ rfl (take_at _ _ _ _ ?_ ?_ ?_ hlen) (fun _ _ h => h) ?_ ?_ ?_; (focus kernel_rfl))
          | (refine AWL.callV (f := 16) rfl rfl rfl rfl ?_ (Nat.le_of_ble_eq_true rfl) rfl (get_ok _ hv1 hv2 _ _) ?_; (focus kernel_rfl))
          | (refine AWL.call (f := 16) rfl rfl rfl ?_ rfl (Nat.le_of_ble_eq_true rfl) rfl (get_ok _ hv1 hv2 _ _) ?_; (focus kernel_rfl))
          | (refine CWr.call (f := 16) rfl ?_ rfl (get_ok _ hv1 hv2 _ _) (fun _ _ h => h) ?_ ?_ ?_; (focus kernel_rfl))
          | (refine AWL.callV (f := 11) rfl rfl rfl rfl ?_ (Nat.le_of_ble_eq_true rfl) rfl (hof32) ?_; (focus kernel_rfl))
          | (refine AWL.call (f := 11) rfl rfl rfl ?_ rfl (Nat.le_of_ble_eq_true rfl) rfl (hof32) ?_; (focus kernel_rfl))
          | (refine CWr.call (f := 11) rfl ?_ rfl (hof32) (fun _ _ h => h) ?_ ?_ ?_; (focus kernel_rfl))
          | (refine AWL.callV (f := 11) rfl rfl rfl rfl ?_ (Nat.le_of_ble_eq_true rfl) rfl (hof64) ?_; (focus kernel_rfl))
          | (refine AWL.call (f := 11) rfl rfl rfl ?_ rfl (Nat.le_of_ble_eq_true rfl) rfl (hof64) ?_; (focus kernel_rfl))
          | (refine CWr.call (f := 11) rfl ?_ rfl (hof64) (fun _ _ h => h) ?_ ?_ ?_; (focus kernel_rfl))
          | fail) <;> (try ((first | show AWL _ _ _ _ _ | show AW _ _ _ _ | show FW _ _ _ _ _ _ _ _ _ _ | show CW _ _ _ _ _ _ _ _ _ _ _ _ | (rintro _ _ ⟨rfl, rfl⟩; (try refine And.intro rfl ?_))); (try (conv => arg -1; simp (disch := omega) only [NSX, Nat.reduceBEq, Nat.reduceAdd, Nat.reduceMul, Int.reduceToNat, Nat.reduceSub, TY, slx, take16, drop16, dz, nums_length, B1, B2, e5, e6, h1])))))
        | ((first | refine AWL.guard2 rfl rfl rfl rfl rfl rfl ?_ ?_ | refine CW.guard2 rfl rfl rfl rfl rfl rfl rfl rfl ?_ ?_) <;> (intro hc; (try simp only [Bool.not_true, Bool.not_false] at hc); first | (cases hc; done) | ((try simp only [hc]); (try simp only [beq_iff_eq, bne_iff_ne, decide_eq_true_eq, decide_eq_false_iff_not, beq_eq_false_iff_ne, bne_eq_false_iff_eq, ne_eq, Bool.not_eq_true, Bool.not_eq_false, Bool.not_eq_eq_eq_not, Bool.not_true, Bool.not_false, Decidable.not_not, Int.not_lt, Int.not_le] at hc); (try (exfalso; omega)); (try (guard_hyp hc : True; clear hc)))) <;> (try (first | (with_reducible show AWL _ _ _ _ (St.put _ _ _)) | (with_reducible show CW _ _ _ _ _ _ _ _ _ _ _ (St.put _ _ _))); (try (conv => arg -1; simp (disch := omega) only [NSX, Nat.reduceBEq, Nat.reduceAdd, Nat.reduceMul, Int.reduceToNat, Nat.reduceSub, TY, slx, take16, drop16, dz, nums_length, B1, B2, e5, e6, h1]))))
        | (refine AWL.guard2 rfl rfl rfl rfl rfl rfl (fun hc => ?_) ?_; (cases hc; done))
        | ((first | ((show AW _ (.region _ _ true) _ _); refine AW.calm false [] [] hmix (by (repeat' (first | exact panOk_end | exact panOk_endM | refine panOk_then ?_ | refine panOk_block ?_ | refine QEq.pan (by assumption) ?_))) ?_ rfl ?_; (focus (as_aux_lemma => kernel_rfl))) | refine AWL.guardU rfl rfl rfl rfl rfl rfl ?_ | refine CW.guardU rfl rfl rfl rfl rfl rfl rfl rfl ?_); (try (conv => arg -1; simp (disch := omega) only [NSX, Nat.reduceBEq, Nat.reduceAdd, Nat.reduceMul, Int.reduceToNat, Nat.reduceSub, TY, slx, take16, drop16, dz, nums_length, B1, B2, e5, e6, h1])))
        | refine CW.tail rfl ?_
        | (refine AW.cond rfl (fun hc => ?_) (fun hc => ?_) <;> first | (cases hc; done) | ((try simp only [beq_iff_eq, bne_iff_ne, decide_eq_true_eq, decide_eq_false_iff_not, beq_eq_false_iff_ne, bne_eq_false_iff_eq, ne_eq, Bool.not_eq_true, Bool.not_eq_false, Bool.not_eq_eq_eq_not, Bool.not_true, Bool.not_false, Decidable.not_not, Int.not_lt, Int.not_le] at hc); (try (exfalso; omega)); (try (guard_hyp hc : True; clear hc))))
        | ((refine EndQ.mk rfl rfl rfl ?_ ?_ ?_; (focus (first | exact Or.inl rfl | exact Or.inr rfl))) <;> (try simp (disch := omega) only [NSX, Nat.reduceBEq, Nat.reduceAdd, Nat.reduceMul, Int.reduceToNat, Nat.reduceSub, TY, slx, take16, drop16, dz, nums_length, B1, B2, e5, e6, h1]))
        | (focus ((first | exact trivial | omega | (refine And.intro (by kernel_rfl) (And.intro ⟨_, (by first | exact nums_ints _ _ | rfl), (by first | exact nums_ints _ _ | rfl)⟩ (And.intro ?_ ?_)) <;> (first | rfl | assumption | (simp only [nums_length]; omega) | omega)) | (refine And.intro ?_ (And.intro ?_ ?_); (focus kernel_rfl); (focus kernel_rfl); (focus kernel_rfl)) | ((show newKs _ _ _ = true); kernel_rfl) | ((show FitV _ _ _ _ _ _); (repeat' (first | exact trivial | exact Or.inr (Or.inl rfl) | exact Or.inl rfl | exact Or.inr (Or.inr rfl) | refine And.intro ?_ ?_)); done) | assumption | ((first | refine ld_nums i3 _ _ ?_ | refine ld_nums i29 _ _ ?_ | refine ld_nums i5 _ _ ?_ | refine at_nums i3 _ _ ?_ | refine at_nums i29 _ _ ?_ | refine at_nums i5 _ _ ?_); first | assumption | omega | (simp only [List.length_append]; omega)) | (simp only [List.length_append, List.length_cons, List.length_nil, Nat.zero_add]; done) | exact hu0 | exact hu1 | exact hu2 | exact hu3 | (show _ ≤ _; omega) | (simp only [List.length_take, List.length_drop, List.length_append, List.length_cons, List.length_nil]; omega) | ((repeat' (first | exact trivial | exact rfl | exact Nat.le_of_ble_eq_true rfl | refine And.intro ?_ ?_ | fail)); done) | ((try simp (disch := omega) only [NSX, Nat.reduceBEq, Nat.reduceAdd, Nat.reduceMul, Int.reduceToNat, Nat.reduceSub, TY, slx, take16, drop16, dz, nums_length, B1, B2, e5, e6, h1]); (repeat' (first | exact trivial | exact rfl | exact ⟨_, _, rfl⟩ | exact ⟨_, rfl⟩ | exact Nat.le_of_ble_eq_true rfl | exact Nat.zero_lt_succ _ | omega | (simp only [nums_length, toB_len] at *; omega) | refine And.intro ?_ ?_ | fail)); done)); done))
        | fail)
      all_goals try simp (disch := omega) only [NSX, Nat.reduceBEq, Nat.reduceAdd, Nat.reduceMul, Int.reduceToNat, Nat.reduceSub, TY, slx, take16, drop16, dz, nums_length, B1, B2, e5, e6, h1]
      all_goals first
        | exact ⟨ts.length - (k + 1), by omega, k + 1, rfl, by omega, rfl, hos (by decide)⟩
        | (exfalso; omega) | trace_state
    · rw [okTs_at hkn h0] at hok; cases hok
  · have hT : ts.take k = ts := List.take_of_length_le (by omega)
    have hXw : (X.length : Int) = (widthL ts : Nat) := by omega
    have hchk : True := by simp only [TY, slx, take16, drop16, dz, nums_length, B1, B2, hT, hXt, hT1, hXw, hcl, eq_self, decide_true, bne_self_eq_false, Bool.not_true]
    repeat' (first
      | (refine AWL.opN (sl := SL) rfl rfl rfl trivial ?_; (try (conv => arg -1; simp (disch := omega) only [NSX, Nat.reduceBEq, Nat.reduceAdd, Nat.reduceMul, Int.reduceToNat, Nat.reduceSub, TY, slx, take16, drop16, dz, nums_length, B1, B2, hT, hXt, hT1, hXw, hcl, eq_self, decide_true, bne_self_eq_false, Bool.not_true])))
      | (refine AW.seqQ ?_; intro Qn hQn)
      | (refine AW.blockQ ?_; intro Qn hQn)
      | refine AW.region ?_
      | ((first | refine AW.skip ?_ | refine AW.ret ?_ | refine AW.exit ?_ | refine AWL.nil ?_ | refine CW.nil ?_); (repeat (first | refine QEq.mp (by assumption) ?_ | simp only [thenQ, Go.Abs.blockQ, ↓reduceIte, Nat.reduceEqDiff])))
      | refine FW.nil ?_
      | refine FW.pass rfl rfl ?_
      | refine FW.go rfl ?_
      | refine CW.skip rfl rfl ?_
      | refine CW.step rfl rfl rfl rfl rfl ?_
      | ((first
        | (refine AWL.boxF (t := 25) rfl rfl rfl rfl rfl ?_)
        | (refine AWL.allocF (t := 25) rfl rfl rfl rfl rfl rfl ?_)
        | (refine CWr.allocF (t := 25) rfl rfl rfl ?_ ?_)
        | (refine AWL.op (sl := SL) rfl rfl ?_ ?_)
        | (refine FW.float rfl rfl rfl rfl rfl ?_)
        | (refine CWr.op rfl ?_ ?_ ?_)
        | (refine CWr.assign rfl ?_ ?_)
        | (refine CWr.alloc rfl rfl rfl rfl ?_)
        | (refine CWr.build rfl rfl rfl rfl ?_ rfl rfl rfl ?_)
        | ((show AWL _ _ ({ dst := _, op := _, type := _, pos := _, after := _, guard := none } :: _) _ _); refine AWL.frzA rfl rfl ?_)
        | (refine AWL.callV (f := 10) rfl rfl rfl rfl ?_ (Nat.le_of_ble_eq_true rfl) rfl (awake_ok) ?_; (focus kernel_rfl))
        | (refine AWL.call (f := 10) rfl rfl rfl ?_ rfl (Nat.le_of_ble_eq_true rfl) rfl (awake_ok) ?_; (focus kernel_rfl))
        | (refine CWr.call (f := 10) rfl ?_ rfl (awake_ok) (fun _ _ h => h) ?_ ?_ ?_; (focus kernel_rfl))
        | (refine AWL.callV (f := 28) rfl rfl rfl rfl ?_ (Nat.le_of_ble_eq_true rfl) rfl (hput) ?_; (focus kernel_rfl))
        | (refine AWL.call (f := 28) rfl rfl rfl ?_ rfl (Nat.le_of_ble_eq_true rfl) rfl (hput) ?_; (focus kernel_rfl))
        | (refine CWr.call (f := 28) rfl ?_ rfl (hput) (fun _ _ h => h) ?_ ?_ ?_; (focus kernel_rfl))
        | (refine AWL.callV (f := 30) rfl rfl rfl rfl ?_ (Nat.le_of_ble_eq_true rfl) rfl (htake0) ?_; (focus kernel_rfl))
        | (refine AWL.call (f := 30) rfl rfl rfl ?_ rfl (Nat.le_of_ble_eq_true rfl) rfl (htake0) ?_; (focus kernel_rfl))
        | (refine CWr.call (f := 30) rfl ?_ rfl (htake0) (fun _ _ h => h) ?_ ?_ ?_; (focus kernel_rfl))
        | (refine AWL.callV (f := 30) rfl rfl rfl rfl ?_ (Nat.le_of_ble_eq_true rfl) rfl (take_at _ _ _ _ ?_ ?_ ?_ hlen) ?_; (focus kernel_rfl))
        | (refine AWL.call (f := 30) rfl rfl rfl ?_ rfl (Nat.le_of_ble_eq_true rfl) rfl (take_at _ _ _ _ ?_ ?_ ?_ hlen) ?_; (focus kernel_rfl))
        | (refine CWr.call (f := 30) rfl ?_ rfl (take_at _ _ _ _ ?_ ?_ ?_ hlen) (fun _ _ h => h) ?_ ?_ ?_; (focus kernel_rfl))
        | (refine AWL.callV (f := 16) rfl rfl rfl rfl ?_ (Nat.le_of_ble_eq_true rfl) rfl (get_ok _ hv1 hv2 _ _) ?_; (focus kernel_rfl))
        | (refine AWL.call (f := 16) rfl rfl rfl ?_ rfl (Nat.le_of_ble_eq_true rfl) rfl (get_ok _ hv1 hv2 _ _) ?_; (focus kernel_rfl))
        | (refine CWr.call (f := 16) rfl ?_ rfl (get_ok _ hv1 hv2 _ _) (fun _ _ h => h) ?_ ?_ ?_; (focus kernel_rfl))
        | (refine AWL.callV (f := 11) rfl rfl rfl rfl ?_ (Nat.le_of_ble_eq_true rfl) rfl (hof32) ?_; (focus kernel_rfl))
        | (refine AWL.call (f := 11) rfl rfl rfl ?_ rfl (Nat.le_of_ble_eq_true rfl) rfl (hof32) ?_; (focus kernel_rfl))
        | (refine CWr.call (f := 11) rfl ?_ rfl (hof32) (fun _ _ h => h) ?_ ?_ ?_; (focus kernel_rfl))
        | (refine AWL.callV (f := 11) rfl rfl rfl rfl ?_ (Nat.le_of_ble_eq_true rfl) rfl (hof64) ?_; (focus kernel_rfl))
        | (refine AWL.call (f := 11) rfl rfl rfl ?_ rfl (Nat.le_of_ble_eq_true rfl) rfl (hof64) ?_; (focus kernel_rfl))
        | (refine CWr.call (f := 11) rfl ?_ rfl (hof64) (fun _ _ h => h) ?_ ?_ ?_; (focus kernel_rfl))
        | fail) <;> (try ((first | show AWL _ _ _ _ _ | show AW _ _ _ _ | show FW _ _ _ _ _ _ _ _ _ _ | show CW _ _ _ _ _ _ _ _ _ _ _ _ | (rintro _ _ ⟨rfl, rfl⟩; (try refine And.intro rfl ?_))); (try (conv => arg -1; simp (disch := omega) only [NSX, Nat.reduceBEq, Nat.reduceAdd, Nat.reduceMul, Int.reduceToNat, Nat.reduceSub, TY, slx, take16, drop16, dz, nums_length, B1, B2, hT, hXt, hT1, hXw, hcl, eq_self, decide_true, bne_self_eq_false, Bool.not_true])))))
      | ((first | refine AWL.guard2 rfl rfl rfl rfl rfl rfl ?_ ?_ | refine CW.guard2 rfl rfl rfl rfl rfl rfl rfl rfl ?_ ?_) <;> (intro hc; (try simp only [Bool.not_true, Bool.not_false] at hc); first | (cases hc; done) | ((try simp only [hc]); (try simp only [beq_iff_eq, bne_iff_ne, decide_eq_true_eq, decide_eq_false_iff_not, beq_eq_false_iff_ne, bne_eq_false_iff_eq, ne_eq, Bool.not_eq_true, Bool.not_eq_false, Bool.not_eq_eq_eq_not, Bool.not_true, Bool.not_false, Decidable.not_not, Int.not_lt, Int.not_le] at hc); (try (exfalso; omega)); (try (guard_hyp hc : True; clear hc)))) <;> (try (first | (with_reducible show AWL _ _ _ _ (St.put _ _ _)) | (with_reducible show CW _ _ _ _ _ _ _ _ _ _ _ (St.put _ _ _))); (try (conv => arg -1; simp (disch := omega) only [NSX, Nat.reduceBEq, Nat.reduceAdd, Nat.reduceMul, Int.reduceToNat, Nat.reduceSub, TY, slx, take16, drop16, dz, nums_length, B1, B2, hT, hXt, hT1, hXw, hcl, eq_self, decide_true, bne_self_eq_false, Bool.not_true]))))
      | (refine AWL.guard2 rfl rfl rfl rfl rfl rfl (fun hc => ?_) ?_; (cases hc; done))
      | ((first | ((show AW _ (.region _ _ true) _ _); refine AW.calm false [] [] hmix (by (repeat' (first | exact panOk_end | exact panOk_endM | refine panOk_then ?_ | refine panOk_block ?_ | refine QEq.pan (by assumption) ?_))) ?_ rfl ?_; (focus (as_aux_lemma => kernel_rfl))) | refine AWL.guardU rfl rfl rfl rfl rfl rfl ?_ | refine CW.guardU rfl rfl rfl rfl rfl rfl rfl rfl ?_); (try (conv => arg -1; simp (disch := omega) only [NSX, Nat.reduceBEq, Nat.reduceAdd, Nat.reduceMul, Int.reduceToNat, Nat.reduceSub, TY, slx, take16, drop16, dz, nums_length, B1, B2, hT, hXt, hT1, hXw, hcl, eq_self, decide_true, bne_self_eq_false, Bool.not_true])))
      | refine CW.tail rfl ?_
      | (refine AW.cond rfl (fun hc => ?_) (fun hc => ?_) <;> first | (cases hc; done) | ((try simp only [beq_iff_eq, bne_iff_ne, decide_eq_true_eq, decide_eq_false_iff_not, beq_eq_false_iff_ne, bne_eq_false_iff_eq, ne_eq, Bool.not_eq_true, Bool.not_eq_false, Bool.not_eq_eq_eq_not, Bool.not_true, Bool.not_false, Decidable.not_not, Int.not_lt, Int.not_le] at hc); (try (exfalso; omega)); (try (guard_hyp hc : True; clear hc))))
      | ((refine EndQ.mk rfl rfl rfl ?_ ?_ ?_; (focus (first | exact Or.inl rfl | exact Or.inr rfl))) <;> (try simp (disch := omega) only [NSX, Nat.reduceBEq, Nat.reduceAdd, Nat.reduceMul, Int.reduceToNat, Nat.reduceSub, TY, slx, take16, drop16, dz, nums_length, B1, B2, hT, hXt, hT1, hXw, hcl, eq_self, decide_true, bne_self_eq_false, Bool.not_true]))
      | (focus ((first | exact trivial | omega | (refine And.intro (by kernel_rfl) (And.intro ⟨_, (by first | exact nums_ints _ _ | rfl), (by first | exact nums_ints _ _ | rfl)⟩ (And.intro ?_ ?_)) <;> (first | rfl | assumption | (simp only [nums_length]; omega) | omega)) | (refine And.intro ?_ (And.intro ?_ ?_); (focus kernel_rfl); (focus kernel_rfl); (focus kernel_rfl)) | ((show newKs _ _ _ = true); kernel_rfl) | ((show FitV _ _ _ _ _ _); (repeat' (first | exact trivial | exact Or.inr (Or.inl rfl) | exact Or.inl rfl | exact Or.inr (Or.inr rfl) | refine And.intro ?_ ?_)); done) | assumption | ((first | refine ld_nums i3 _ _ ?_ | refine ld_nums i29 _ _ ?_ | refine ld_nums i5 _ _ ?_ | refine at_nums i3 _ _ ?_ | refine at_nums i29 _ _ ?_ | refine at_nums i5 _ _ ?_); first | assumption | omega | (simp only [List.length_append]; omega)) | (simp only [List.length_append, List.length_cons, List.length_nil, Nat.zero_add]; done) | exact hu0 | exact hu1 | exact hu2 | exact hu3 | (show _ ≤ _; omega) | (simp only [List.length_take, List.length_drop, List.length_append, List.length_cons, List.length_nil]; omega) | ((repeat' (first | exact trivial | exact rfl | exact Nat.le_of_ble_eq_true rfl | refine And.intro ?_ ?_ | fail)); done) | ((try simp (disch := omega) only [NSX, Nat.reduceBEq, Nat.reduceAdd, Nat.reduceMul, Int.reduceToNat, Nat.reduceSub, TY, slx, take16, drop16, dz, nums_length, B1, B2, hT, hXt, hT1, hXw, hcl, eq_self, decide_true, bne_self_eq_false, Bool.not_true]); (repeat' (first | exact trivial | exact rfl | exact ⟨_, _, rfl⟩ | exact ⟨_, rfl⟩ | exact Nat.le_of_ble_eq_true rfl | exact Nat.zero_lt_succ _ | omega | (simp only [nums_length, toB_len] at *; omega) | refine And.intro ?_ ?_ | fail)); done)); done))
      | fail)
    all_goals try (exfalso; omega)
    refine AW.loop [0, 1, 5, 7, 11, 12] [11] (fun m st => ∃ i : Nat, st = B2 ts vs X C (widthL ts : Nat) i ∧ i ≤ vs.length ∧ m = vs.length - i) ?_ ?_
    · exact ⟨_, 0, rfl, Nat.zero_le _, rfl⟩
    rintro m st ⟨i, rfl, hi, rfl⟩
    have e7 : IntKind.i64.wrap ((i : Int) + 1) = ((i + 1 : Nat) : Int) := wrap64_id _ (by omega) (by omega)
    by_cases hin : i < vs.length
    · have hva := vec_at hv hin
      have hv1 := hva.1
      have hv2 := hva.2
      have hld := vec_load hv hin
      have hroom := vec_room hv hin
      have hci := hca i hin
      have hcb := (vec_at hcv (k := i) (by omega)).1
      have hld2 := vec_load hcv (k := i) (by omega)
      have hroom2 := vec_room hcv (k := i) (by omega)
      have hlo := lo_bound hv2 hv1
      have hg1 := get_lo (v := vs.getD i [])
      have hg3 := get_lo32 hv1 hv2
      have hof32 := of_at 1 32 [lo (vs.getD i []) % 4294967296] rfl (by intro x hx; rw [List.mem_singleton] at hx; omega) (by simp)
      rw [of32 (by omega), show lo (vs.getD i []) % 4294967296 % 4294967296 = lo (vs.getD i []) % 4294967296 from by omega] at hof32
      have hof64 := of_at 1 64 [lo (vs.getD i [])] rfl (by intro x hx; rw [List.mem_singleton] at hx; omega) (by simp)
      rw [of64'] at hof64
      rcases need_cases (ts.getD i 0) with h1 | h1 | h1 | ⟨h0, h1, h2, h3⟩
      · rw [h1] at hci
        simp only [cut1, Int.reduceEq, ↓reduceIte] at hci
        have hchk : True := by simp only [TY, slx, take16, drop16, dz, nums_length, B1, B2, e7, hld, hld2, hci, hv1, hg3, h1, join_len, take_join, hcl, eq_self, decide_true]
        repeat' (first
          | (refine AWL.opN (sl := SL) rfl rfl rfl trivial ?_; (try (conv => arg -1; simp (disch := omega) only [NSX, Nat.reduceBEq, Nat.reduceAdd, Nat.reduceMul, Int.reduceToNat, Nat.reduceSub, TY, slx, take16, drop16, dz, nums_length, B1, B2, e7, hld, hld2, hci, hv1, hg3, h1, join_len, take_join, hcl, eq_self, decide_true])))
          | (refine AW.seqQ ?_; intro Qn hQn)
          | (refine AW.blockQ ?_; intro Qn hQn)
          | refine AW.region ?_
          | ((first | refine AW.skip ?_ | refine AW.ret ?_ | refine AW.exit ?_ | refine AWL.nil ?_ | refine CW.nil ?_); (repeat (first | refine QEq.mp (by assumption) ?_ | simp only [thenQ, Go.Abs.blockQ, ↓reduceIte, Nat.reduceEqDiff])))
          | refine FW.nil ?_
          | refine FW.pass rfl rfl ?_
          | refine FW.go rfl ?_
          | refine CW.skip rfl rfl ?_
          | refine CW.step rfl rfl rfl rfl rfl ?_
          | ((first
            | (refine AWL.boxF (t := 25) rfl rfl rfl rfl rfl ?_)
            | (refine AWL.allocF (t := 25) rfl rfl rfl rfl rfl rfl ?_)
            | (refine CWr.allocF (t := 25) rfl rfl rfl ?_ ?_)
            | (refine AWL.op (sl := SL) rfl rfl ?_ ?_)
            | (refine FW.float rfl rfl rfl rfl rfl ?_)
            | (refine CWr.op rfl ?_ ?_ ?_)
            | (refine CWr.assign rfl ?_ ?_)
            | (refine CWr.alloc rfl rfl rfl rfl ?_)
            | (refine CWr.build rfl rfl rfl rfl ?_ rfl rfl rfl ?_)
            | ((show AWL _ _ ({ dst := _, op := _, type := _, pos := _, after := _, guard := none } :: _) _ _); refine AWL.frzA rfl rfl ?_)
            | (refine AWL.callV (f := 10) rfl rfl rfl rfl ?_ (Nat.le_of_ble_eq_true rfl) rfl (awake_ok) ?_; (focus kernel_rfl))
            | (refine AWL.call (f := 10) rfl rfl rfl ?_ rfl (Nat.le_of_ble_eq_true rfl) rfl (awake_ok) ?_; (focus kernel_rfl))
            | (refine CWr.call (f := 10) rfl ?_ rfl (awake_ok) (fun _ _ h => h) ?_ ?_ ?_; (focus kernel_rfl))
            | (refine AWL.callV (f := 28) rfl rfl rfl rfl ?_ (Nat.le_of_ble_eq_true rfl) rfl (hput) ?_; (focus kernel_rfl))
            | (refine AWL.call (f := 28) rfl rfl rfl ?_ rfl (Nat.le_of_ble_eq_true rfl) rfl (hput) ?_; (focus kernel_rfl))
            | (refine CWr.call (f := 28) rfl ?_ rfl (hput) (fun _ _ h => h) ?_ ?_ ?_; (focus kernel_rfl))
            | (refine AWL.callV (f := 30) rfl rfl rfl rfl ?_ (Nat.le_of_ble_eq_true rfl) rfl (htake0) ?_; (focus kernel_rfl))
            | (refine AWL.call (f := 30) rfl rfl rfl ?_ rfl (Nat.le_of_ble_eq_true rfl) rfl (htake0) ?_; (focus kernel_rfl))
            | (refine CWr.call (f := 30) rfl ?_ rfl (htake0) (fun _ _ h => h) ?_ ?_ ?_; (focus kernel_rfl))
            | (refine AWL.callV (f := 30) rfl rfl rfl rfl ?_ (Nat.le_of_ble_eq_true rfl) rfl (take_at _ _ _ _ ?_ ?_ ?_ hlen) ?_; (focus kernel_rfl))
            | (refine AWL.call (f := 30) rfl rfl rfl ?_ rfl (Nat.le_of_ble_eq_true rfl) rfl (take_at _ _ _ _ ?_ ?_ ?_ hlen) ?_; (focus kernel_rfl))
            | (refine CWr.call (f := 30) rfl ?_ rfl (take_at _ _ _ _ ?_ ?_ ?_ hlen) (fun _ _ h => h) ?_ ?_ ?_; (focus kernel_rfl))
            | (refine AWL.callV (f := 16) rfl rfl rfl rfl ?_ (Nat.le_of_ble_eq_true rfl) rfl (get_ok _ hv1 hv2 _ _) ?_; (focus kernel_rfl))
            | (refine AWL.call (f := 16) rfl rfl rfl ?_ rfl (Nat.le_of_ble_eq_true rfl) rfl (get_ok _ hv1 hv2 _ _) ?_; (focus kernel_rfl))
            | (refine CWr.call (f := 16) rfl ?_ rfl (get_ok _ hv1 hv2 _ _) (fun _ _ h => h) ?_ ?_ ?_; (focus kernel_rfl))
            | (refine AWL.callV (f := 11) rfl rfl rfl rfl ?_ (Nat.le_of_ble_eq_true rfl) rfl (hof32) ?_; (focus kernel_rfl))
            | (refine AWL.call (f := 11) rfl rfl rfl ?_ rfl (Nat.le_of_ble_eq_true rfl) rfl (hof32) ?_; (focus kernel_rfl))
            | (refine CWr.call (f := 11) rfl ?_ rfl (hof32) (fun _ _ h => h) ?_ ?_ ?_; (focus kernel_rfl))
            | (refine AWL.callV (f := 11) rfl rfl rfl rfl ?_ (Nat.le_of_ble_eq_true rfl) rfl (hof64) ?_; (focus kernel_rfl))
            | (refine AWL.call (f := 11) rfl rfl rfl ?_ rfl (Nat.le_of_ble_eq_true rfl) rfl (hof64) ?_; (focus kernel_rfl))
            | (refine CWr.call (f := 11) rfl ?_ rfl (hof64) (fun _ _ h => h) ?_ ?_ ?_; (focus kernel_rfl))
            | fail) <;> (try ((first | show AWL _ _ _ _ _ | show AW _ _ _ _ | show FW _ _ _ _ _ _ _ _ _ _ | show CW _ _ _ _ _ _ _ _ _ _ _ _ | (rintro _ _ ⟨rfl, rfl⟩; (try refine And.intro rfl ?_))); (try (conv => arg -1; simp (disch := omega) only [NSX, Nat.reduceBEq, Nat.reduceAdd, Nat.reduceMul, Int.reduceToNat, Nat.reduceSub, TY, slx, take16, drop16, dz, nums_length, B1, B2, e7, hld, hld2, hci, hv1, hg3, h1, join_len, take_join, hcl, eq_self, decide_true])))))
          | ((first | refine AWL.guard2 rfl rfl rfl rfl rfl rfl ?_ ?_ | refine CW.guard2 rfl rfl rfl rfl rfl rfl rfl rfl ?_ ?_) <;> (intro hc; (try simp only [Bool.not_true, Bool.not_false] at hc); first | (cases hc; done) | ((try simp only [hc]); (try simp only [beq_iff_eq, bne_iff_ne, decide_eq_true_eq, decide_eq_false_iff_not, beq_eq_false_iff_ne, bne_eq_false_iff_eq, ne_eq, Bool.not_eq_true, Bool.not_eq_false, Bool.not_eq_eq_eq_not, Bool.not_true, Bool.not_false, Decidable.not_not, Int.not_lt, Int.not_le] at hc); (try (exfalso; omega)); (try (guard_hyp hc : True; clear hc)))) <;> (try (first | (with_reducible show AWL _ _ _ _ (St.put _ _ _)) | (with_reducible show CW _ _ _ _ _ _ _ _ _ _ _ (St.put _ _ _))); (try (conv => arg -1; simp (disch := omega) only [NSX, Nat.reduceBEq, Nat.reduceAdd, Nat.reduceMul, Int.reduceToNat, Nat.reduceSub, TY, slx, take16, drop16, dz, nums_length, B1, B2, e7, hld, hld2, hci, hv1, hg3, h1, join_len, take_join, hcl, eq_self, decide_true]))))
          | (refine AWL.guard2 rfl rfl rfl rfl rfl rfl (fun hc => ?_) ?_; (cases hc; done))
          | ((first | ((show AW _ (.region _ _ true) _ _); refine AW.calm false [] [] hmix (by (repeat' (first | exact panOk_end | exact panOk_endM | refine panOk_then ?_ | refine panOk_block ?_ | refine QEq.pan (by assumption) ?_))) ?_ rfl ?_; (focus (as_aux_lemma => kernel_rfl))) | refine AWL.guardU rfl rfl rfl rfl rfl rfl ?_ | refine CW.guardU rfl rfl rfl rfl rfl rfl rfl rfl ?_); (try (conv => arg -1; simp (disch := omega) only [NSX, Nat.reduceBEq, Nat.reduceAdd, Nat.reduceMul, Int.reduceToNat, Nat.reduceSub, TY, slx, take16, drop16, dz, nums_length, B1, B2, e7, hld, hld2, hci, hv1, hg3, h1, join_len, take_join, hcl, eq_self, decide_true])))
          | refine CW.tail rfl ?_
          | (refine AW.cond rfl (fun hc => ?_) (fun hc => ?_) <;> first | (cases hc; done) | ((try simp only [beq_iff_eq, bne_iff_ne, decide_eq_true_eq, decide_eq_false_iff_not, beq_eq_false_iff_ne, bne_eq_false_iff_eq, ne_eq, Bool.not_eq_true, Bool.not_eq_false, Bool.not_eq_eq_eq_not, Bool.not_true, Bool.not_false, Decidable.not_not, Int.not_lt, Int.not_le] at hc); (try (exfalso; omega)); (try (guard_hyp hc : True; clear hc))))
          | ((refine EndQ.mk rfl rfl rfl ?_ ?_ ?_; (focus (first | exact Or.inl rfl | exact Or.inr rfl))) <;> (try simp (disch := omega) only [NSX, Nat.reduceBEq, Nat.reduceAdd, Nat.reduceMul, Int.reduceToNat, Nat.reduceSub, TY, slx, take16, drop16, dz, nums_length, B1, B2, e7, hld, hld2, hci, hv1, hg3, h1, join_len, take_join, hcl, eq_self, decide_true]))
          | (focus ((first | exact trivial | omega | (refine And.intro (by kernel_rfl) (And.intro ⟨_, (by first | exact nums_ints _ _ | rfl), (by first | exact nums_ints _ _ | rfl)⟩ (And.intro ?_ ?_)) <;> (first | rfl | assumption | (simp only [nums_length]; omega) | omega)) | (refine And.intro ?_ (And.intro ?_ ?_); (focus kernel_rfl); (focus kernel_rfl); (focus kernel_rfl)) | ((show newKs _ _ _ = true); kernel_rfl) | ((show FitV _ _ _ _ _ _); (repeat' (first | exact trivial | exact Or.inr (Or.inl rfl) | exact Or.inl rfl | exact Or.inr (Or.inr rfl) | refine And.intro ?_ ?_)); done) | assumption | ((first | refine ld_nums i3 _ _ ?_ | refine ld_nums i29 _ _ ?_ | refine ld_nums i5 _ _ ?_ | refine at_nums i3 _ _ ?_ | refine at_nums i29 _ _ ?_ | refine at_nums i5 _ _ ?_); first | assumption | omega | (simp only [List.length_append]; omega)) | (simp only [List.length_append, List.length_cons, List.length_nil, Nat.zero_add]; done) | exact hu0 | exact hu1 | exact hu2 | exact hu3 | (show _ ≤ _; omega) | (simp only [List.length_take, List.length_drop, List.length_append, List.length_cons, List.length_nil]; omega) | ((repeat' (first | exact trivial | exact rfl | exact Nat.le_of_ble_eq_true rfl | refine And.intro ?_ ?_ | fail)); done) | ((try simp (disch := omega) only [NSX, Nat.reduceBEq, Nat.reduceAdd, Nat.reduceMul, Int.reduceToNat, Nat.reduceSub, TY, slx, take16, drop16, dz, nums_length, B1, B2, e7, hld, hld2, hci, hv1, hg3, h1, join_len, take_join, hcl, eq_self, decide_true]); (repeat' (first | exact trivial | exact rfl | exact ⟨_, _, rfl⟩ | exact ⟨_, rfl⟩ | exact Nat.le_of_ble_eq_true rfl | exact Nat.zero_lt_succ _ | omega | (simp only [nums_length, toB_len] at *; omega) | refine And.intro ?_ ?_ | fail)); done)); done))
          | fail)
        all_goals try simp (disch := omega) only [NSX, Nat.reduceBEq, Nat.reduceAdd, Nat.reduceMul, Int.reduceToNat, Nat.reduceSub, TY, slx, take16, drop16, dz, nums_length, B1, B2, e7, hcl]
        all_goals first
          | exact ⟨vs.length - (i + 1), by omega, i + 1, rfl, by omega, rfl⟩
          | (exfalso; omega) | trace_state
      · rw [h1] at hci
        simp only [cut1, Int.reduceEq, ↓reduceIte] at hci
        have hchk : True := by simp only [TY, slx, take16, drop16, dz, nums_length, B1, B2, e7, hld, hld2, hci, hv1, hg1, h1, join_len, take_join, hcl, eq_self, decide_true]
        repeat' (first
          | (refine AWL.opN (sl := SL) rfl rfl rfl trivial ?_; (try (conv => arg -1; simp (disch := omega) only [NSX, Nat.reduceBEq, Nat.reduceAdd, Nat.reduceMul, Int.reduceToNat, Nat.reduceSub, TY, slx, take16, drop16, dz, nums_length, B1, B2, e7, hld, hld2, hci, hv1, hg1, h1, join_len, take_join, hcl, eq_self, decide_true])))
          | (refine AW.seqQ ?_; intro Qn hQn)
          | (refine AW.blockQ ?_; intro Qn hQn)
          | refine AW.region ?_
          | ((first | refine AW.skip ?_ | refine AW.ret ?_ | refine AW.exit ?_ | refine AWL.nil ?_ | refine CW.nil ?_); (repeat (first | refine QEq.mp (by assumption) ?_ | simp only [thenQ, Go.Abs.blockQ, ↓reduceIte, Nat.reduceEqDiff])))
          | refine FW.nil ?_
          | refine FW.pass rfl rfl ?_
          | refine FW.go rfl ?_
          | refine CW.skip rfl rfl ?_
          | refine CW.step rfl rfl rfl rfl rfl ?_
          | ((first
            | (refine AWL.boxF (t := 25) rfl rfl rfl rfl rfl ?_)
            | (refine AWL.allocF (t := 25) rfl rfl rfl rfl rfl rfl ?_)
            | (refine CWr.allocF (t := 25) rfl rfl rfl ?_ ?_)
            | (refine AWL.op (sl := SL) rfl rfl ?_ ?_)
            | (refine FW.float rfl rfl rfl rfl rfl ?_)
            | (refine CWr.op rfl ?_ ?_ ?_)
            | (refine CWr.assign rfl ?_ ?_)
            | (refine CWr.alloc rfl rfl rfl rfl ?_)
            | (refine CWr.build rfl rfl rfl rfl ?_ rfl rfl rfl ?_)
            | ((show AWL _ _ ({ dst := _, op := _, type := _, pos := _, after := _, guard := none } :: _) _ _); refine AWL.frzA rfl rfl ?_)
            | (refine AWL.callV (f := 10) rfl rfl rfl rfl ?_ (Nat.le_of_ble_eq_true rfl) rfl (awake_ok) ?_; (focus kernel_rfl))
            | (refine AWL.call (f := 10) rfl rfl rfl ?_ rfl (Nat.le_of_ble_eq_true rfl) rfl (awake_ok) ?_; (focus kernel_rfl))
            | (refine CWr.call (f := 10) rfl ?_ rfl (awake_ok) (fun _ _ h => h) ?_ ?_ ?_; (focus kernel_rfl))
            | (refine AWL.callV (f := 28) rfl rfl rfl rfl ?_ (Nat.le_of_ble_eq_true rfl) rfl (hput) ?_; (focus kernel_rfl))
            | (refine AWL.call (f := 28) rfl rfl rfl ?_ rfl (Nat.le_of_ble_eq_true rfl) rfl (hput) ?_; (focus kernel_rfl))
            | (refine CWr.call (f := 28) rfl ?_ rfl (hput) (fun _ _ h => h) ?_ ?_ ?_; (focus kernel_rfl))
            | (refine AWL.callV (f := 30) rfl rfl rfl rfl ?_ (Nat.le_of_ble_eq_true rfl) rfl (htake0) ?_; (focus kernel_rfl))
            | (refine AWL.call (f := 30) rfl rfl rfl ?_ rfl (Nat.le_of_ble_eq_true rfl) rfl (htake0) ?_; (focus kernel_rfl))
            | (refine CWr.call (f := 30) rfl ?_ rfl (htake0) (fun _ _ h => h) ?_ ?_ ?_; (focus kernel_rfl))
            | (refine AWL.callV (f := 30) rfl rfl rfl rfl ?_ (Nat.le_of_ble_eq_true rfl) rfl (take_at _ _ _ _ ?_ ?_ ?_ hlen) ?_; (focus kernel_rfl))
            | (refine AWL.call (f := 30) rfl rfl rfl ?_ rfl (Nat.le_of_ble_eq_true rfl) rfl (take_at _ _ _ _ ?_ ?_ ?_ hlen) ?_; (focus kernel_rfl))
            | (refine CWr.call (f := 30) rfl ?_ rfl (take_at _ _ _ _ ?_ ?_ ?_ hlen) (fun _ _ h => h) ?_ ?_ ?_; (focus kernel_rfl))
            | (refine AWL.callV (f := 16) rfl rfl rfl rfl ?_ (Nat.le_of_ble_eq_true rfl) rfl (get_ok _ hv1 hv2 _ _) ?_; (focus kernel_rfl))
            | (refine AWL.call (f := 16) rfl rfl rfl ?_ rfl (Nat.le_of_ble_eq_true rfl) rfl (get_ok _ hv1 hv2 _ _) ?_; (focus kernel_rfl))
            | (refine CWr.call (f := 16) rfl ?_ rfl (get_ok _ hv1 hv2 _ _) (fun _ _ h => h) ?_ ?_ ?_; (focus kernel_rfl))
            | (refine AWL.callV (f := 11) rfl rfl rfl rfl ?_ (Nat.le_of_ble_eq_true rfl) rfl (hof32) ?_; (focus kernel_rfl))
            | (refine AWL.call (f := 11) rfl rfl rfl ?_ rfl (Nat.le_of_ble_eq_true rfl) rfl (hof32) ?_; (focus kernel_rfl))
            | (refine CWr.call (f := 11) rfl ?_ rfl (hof32) (fun _ _ h => h) ?_ ?_ ?_; (focus kernel_rfl))
            | (refine AWL.callV (f := 11) rfl rfl rfl rfl ?_ (Nat.le_of_ble_eq_true rfl) rfl (hof64) ?_; (focus kernel_rfl))
            | (refine AWL.call (f := 11) rfl rfl rfl ?_ rfl (Nat.le_of_ble_eq_true rfl) rfl (hof64) ?_; (focus kernel_rfl))
            | (refine CWr.call (f := 11) rfl ?_ rfl (hof64) (fun _ _ h => h) ?_ ?_ ?_; (focus kernel_rfl))
            | fail) <;> (try ((first | show AWL _ _ _ _ _ | show AW _ _ _ _ | show FW _ _ _ _ _ _ _ _ _ _ | show CW _ _ _ _ _ _ _ _ _ _ _ _ | (rintro _ _ ⟨rfl, rfl⟩; (try refine And.intro rfl ?_))); (try (conv => arg -1; simp (disch := omega) only [NSX, Nat.reduceBEq, Nat.reduceAdd, Nat.reduceMul, Int.reduceToNat, Nat.reduceSub, TY, slx, take16, drop16, dz, nums_length, B1, B2, e7, hld, hld2, hci, hv1, hg1, h1, join_len, take_join, hcl, eq_self, decide_true])))))
          | ((first | refine AWL.guard2 rfl rfl rfl rfl rfl rfl ?_ ?_ | refine CW.guard2 rfl rfl rfl rfl rfl rfl rfl rfl ?_ ?_) <;> (intro hc; (try simp only [Bool.not_true, Bool.not_false] at hc); first | (cases hc; done) | ((try simp only [hc]); (try simp only [beq_iff_eq, bne_iff_ne, decide_eq_true_eq, decide_eq_false_iff_not, beq_eq_false_iff_ne, bne_eq_false_iff_eq, ne_eq, Bool.not_eq_true, Bool.not_eq_false, Bool.not_eq_eq_eq_not, Bool.not_true, Bool.not_false, Decidable.not_not, Int.not_lt, Int.not_le] at hc); (try (exfalso; omega)); (try (guard_hyp hc : True; clear hc)))) <;> (try (first | (with_reducible show AWL _ _ _ _ (St.put _ _ _)) | (with_reducible show CW _ _ _ _ _ _ _ _ _ _ _ (St.put _ _ _))); (try (conv => arg -1; simp (disch := omega) only [NSX, Nat.reduceBEq, Nat.reduceAdd, Nat.reduceMul, Int.reduceToNat, Nat.reduceSub, TY, slx, take16, drop16, dz, nums_length, B1, B2, e7, hld, hld2, hci, hv1, hg1, h1, join_len, take_join, hcl, eq_self, decide_true]))))
          | (refine AWL.guard2 rfl rfl rfl rfl rfl rfl (fun hc => ?_) ?_; (cases hc; done))
          | ((first | ((show AW _ (.region _ _ true) _ _); refine AW.calm false [] [] hmix (by (repeat' (first | exact panOk_end | exact panOk_endM | refine panOk_then ?_ | refine panOk_block ?_ | refine QEq.pan (by assumption) ?_))) ?_ rfl ?_; (focus (as_aux_lemma => kernel_rfl))) | refine AWL.guardU rfl rfl rfl rfl rfl rfl ?_ | refine CW.guardU rfl rfl rfl rfl rfl rfl rfl rfl ?_); (try (conv => arg -1; simp (disch := omega) only [NSX, Nat.reduceBEq, Nat.reduceAdd, Nat.reduceMul, Int.reduceToNat, Nat.reduceSub, TY, slx, take16, drop16, dz, nums_length, B1, B2, e7, hld, hld2, hci, hv1, hg1, h1, join_len, take_join, hcl, eq_self, decide_true])))
          | refine CW.tail rfl ?_
          | (refine AW.cond rfl (fun hc => ?_) (fun hc => ?_) <;> first | (cases hc; done) | ((try simp only [beq_iff_eq, bne_iff_ne, decide_eq_true_eq, decide_eq_false_iff_not, beq_eq_false_iff_ne, bne_eq_false_iff_eq, ne_eq, Bool.not_eq_true, Bool.not_eq_false, Bool.not_eq_eq_eq_not, Bool.not_true, Bool.not_false, Decidable.not_not, Int.not_lt, Int.not_le] at hc); (try (exfalso; omega)); (try (guard_hyp hc : True; clear hc))))
          | ((refine EndQ.mk rfl rfl rfl ?_ ?_ ?_; (focus (first | exact Or.inl rfl | exact Or.inr rfl))) <;> (try simp (disch := omega) only [NSX, Nat.reduceBEq, Nat.reduceAdd, Nat.reduceMul, Int.reduceToNat, Nat.reduceSub, TY, slx, take16, drop16, dz, nums_length, B1, B2, e7, hld, hld2, hci, hv1, hg1, h1, join_len, take_join, hcl, eq_self, decide_true]))
          | (focus ((first | exact trivial | omega | (refine And.intro (by kernel_rfl) (And.intro ⟨_, (by first | exact nums_ints _ _ | rfl), (by first | exact nums_ints _ _ | rfl)⟩ (And.intro ?_ ?_)) <;> (first | rfl | assumption | (simp only [nums_length]; omega) | omega)) | (refine And.intro ?_ (And.intro ?_ ?_); (focus kernel_rfl); (focus kernel_rfl); (focus kernel_rfl)) | ((show newKs _ _ _ = true); kernel_rfl) | ((show FitV _ _ _ _ _ _); (repeat' (first | exact trivial | exact Or.inr (Or.inl rfl) | exact Or.inl rfl | exact Or.inr (Or.inr rfl) | refine And.intro ?_ ?_)); done) | assumption | ((first | refine ld_nums i3 _ _ ?_ | refine ld_nums i29 _ _ ?_ | refine ld_nums i5 _ _ ?_ | refine at_nums i3 _ _ ?_ | refine at_nums i29 _ _ ?_ | refine at_nums i5 _ _ ?_); first | assumption | omega | (simp only [List.length_append]; omega)) | (simp only [List.length_append, List.length_cons, List.length_nil, Nat.zero_add]; done) | exact hu0 | exact hu1 | exact hu2 | exact hu3 | (show _ ≤ _; omega) | (simp only [List.length_take, List.length_drop, List.length_append, List.length_cons, List.length_nil]; omega) | ((repeat' (first | exact trivial | exact rfl | exact Nat.le_of_ble_eq_true rfl | refine And.intro ?_ ?_ | fail)); done) | ((try simp (disch := omega) only [NSX, Nat.reduceBEq, Nat.reduceAdd, Nat.reduceMul, Int.reduceToNat, Nat.reduceSub, TY, slx, take16, drop16, dz, nums_length, B1, B2, e7, hld, hld2, hci, hv1, hg1, h1, join_len, take_join, hcl, eq_self, decide_true]); (repeat' (first | exact trivial | exact rfl | exact ⟨_, _, rfl⟩ | exact ⟨_, rfl⟩ | exact Nat.le_of_ble_eq_true rfl | exact Nat.zero_lt_succ _ | omega | (simp only [nums_length, toB_len] at *; omega) | refine And.intro ?_ ?_ | fail)); done)); done))
          | fail)
        all_goals try simp (disch := omega) only [NSX, Nat.reduceBEq, Nat.reduceAdd, Nat.reduceMul, Int.reduceToNat, Nat.reduceSub, TY, slx, take16, drop16, dz, nums_length, B1, B2, e7, hcl]
        all_goals first
          | exact ⟨vs.length - (i + 1), by omega, i + 1, rfl, by omega, rfl⟩
          | (exfalso; omega) | trace_state
      · rw [h1] at hci
        simp only [cut1, Int.reduceEq, ↓reduceIte] at hci
        have hchk : True := by simp only [TY, slx, take16, drop16, dz, nums_length, B1, B2, e7, hld, hld2, hci, hv1, h1, hcl, eq_self, decide_true]
        repeat' (first
          | (refine AWL.opN (sl := SL) rfl rfl rfl trivial ?_; (try (conv => arg -1; simp (disch := omega) only [NSX, Nat.reduceBEq, Nat.reduceAdd, Nat.reduceMul, Int.reduceToNat, Nat.reduceSub, TY, slx, take16, drop16, dz, nums_length, B1, B2, e7, hld, hld2, hci, hv1, h1, hcl, eq_self, decide_true])))
          | (refine AW.seqQ ?_; intro Qn hQn)
          | (refine AW.blockQ ?_; intro Qn hQn)
          | refine AW.region ?_
          | ((first | refine AW.skip ?_ | refine AW.ret ?_ | refine AW.exit ?_ | refine AWL.nil ?_ | refine CW.nil ?_); (repeat (first | refine QEq.mp (by assumption) ?_ | simp only [thenQ, Go.Abs.blockQ, ↓reduceIte, Nat.reduceEqDiff])))
          | refine FW.nil ?_
          | refine FW.pass rfl rfl ?_
          | refine FW.go rfl ?_
          | refine CW.skip rfl rfl ?_
          | refine CW.step rfl rfl rfl rfl rfl ?_
          | ((first
            | (refine AWL.boxF (t := 25) rfl rfl rfl rfl rfl ?_)
            | (refine AWL.allocF (t := 25) rfl rfl rfl rfl rfl rfl ?_)
            | (refine CWr.allocF (t := 25) rfl rfl rfl ?_ ?_)
            | (refine AWL.op (sl := SL) rfl rfl ?_ ?_)
            | (refine FW.float rfl rfl rfl rfl rfl ?_)
            | (refine CWr.op rfl ?_ ?_ ?_)
            | (refine CWr.assign rfl ?_ ?_)
            | (refine CWr.alloc rfl rfl rfl rfl ?_)
            | (refine CWr.build rfl rfl rfl rfl ?_ rfl rfl rfl ?_)
            | ((show AWL _ _ ({ dst := _, op := _, type := _, pos := _, after := _, guard := none } :: _) _ _); refine AWL.frzA rfl rfl ?_)
            | (refine AWL.callV (f := 10) rfl rfl rfl rfl ?_ (Nat.le_of_ble_eq_true rfl) rfl (awake_ok) ?_; (focus kernel_rfl))
            | (refine AWL.call (f := 10) rfl rfl rfl ?_ rfl (Nat.le_of_ble_eq_true rfl) rfl (awake_ok) ?_; (focus kernel_rfl))
            | (refine CWr.call (f := 10) rfl ?_ rfl (awake_ok) (fun _ _ h => h) ?_ ?_ ?_; (focus kernel_rfl))
            | (refine AWL.callV (f := 28) rfl rfl rfl rfl ?_ (Nat.le_of_ble_eq_true rfl) rfl (hput) ?_; (focus kernel_rfl))
            | (refine AWL.call (f := 28) rfl rfl rfl ?_ rfl (Nat.le_of_ble_eq_true rfl) rfl (hput) ?_; (focus kernel_rfl))
            | (refine CWr.call (f := 28) rfl ?_ rfl (hput) (fun _ _ h => h) ?_ ?_ ?_; (focus kernel_rfl))
            | (refine AWL.callV (f := 30) rfl rfl rfl rfl ?_ (Nat.le_of_ble_eq_true rfl) rfl (htake0) ?_; (focus kernel_rfl))
            | (refine AWL.call (f := 30) rfl rfl rfl ?_ rfl (Nat.le_of_ble_eq_true rfl) rfl (htake0) ?_; (focus kernel_rfl))
            | (refine CWr.call (f := 30) rfl ?_ rfl (htake0) (fun _ _ h => h) ?_ ?_ ?_; (focus kernel_rfl))
            | (refine AWL.callV (f := 30) rfl rfl rfl rfl ?_ (Nat.le_of_ble_eq_true rfl) rfl (take_at _ _ _ _ ?_ ?_ ?_ hlen) ?_; (focus kernel_rfl))
            | (refine AWL.call (f := 30) rfl rfl rfl ?_ rfl (Nat.le_of_ble_eq_true rfl) rfl (take_at _ _ _ _ ?_ ?_ ?_ hlen) ?_; (focus kernel_rfl))
            | (refine CWr.call (f := 30) rfl ?_ rfl (take_at _ _ _ _ ?_ ?_ ?_ hlen) (fun _ _ h => h) ?_ ?_ ?_; (focus kernel_rfl))
            | (refine AWL.callV (f := 16) rfl rfl rfl rfl ?_ (Nat.le_of_ble_eq_true rfl) rfl (get_ok _ hv1 hv2 _ _) ?_; (focus kernel_rfl))
            | (refine AWL.call (f := 16) rfl rfl rfl ?_ rfl (Nat.le_of_ble_eq_true rfl) rfl (get_ok _ hv1 hv2 _ _) ?_; (focus kernel_rfl))
            | (refine CWr.call (f := 16) rfl ?_ rfl (get_ok _ hv1 hv2 _ _) (fun _ _ h => h) ?_ ?_ ?_; (focus kernel_rfl))
            | (refine AWL.callV (f := 11) rfl rfl rfl rfl ?_ (Nat.le_of_ble_eq_true rfl) rfl (hof32) ?_; (focus kernel_rfl))
            | (refine AWL.call (f := 11) rfl rfl rfl ?_ rfl (Nat.le_of_ble_eq_true rfl) rfl (hof32) ?_; (focus kernel_rfl))
            | (refine CWr.call (f := 11) rfl ?_ rfl (hof32) (fun _ _ h => h) ?_ ?_ ?_; (focus kernel_rfl))
            | (refine AWL.callV (f := 11) rfl rfl rfl rfl ?_ (Nat.le_of_ble_eq_true rfl) rfl (hof64) ?_; (focus kernel_rfl))
            | (refine AWL.call (f := 11) rfl rfl rfl ?_ rfl (Nat.le_of_ble_eq_true rfl) rfl (hof64) ?_; (focus kernel_rfl))
            | (refine CWr.call (f := 11) rfl ?_ rfl (hof64) (fun _ _ h => h) ?_ ?_ ?_; (focus kernel_rfl))
            | fail) <;> (try ((first | show AWL _ _ _ _ _ | show AW _ _ _ _ | show FW _ _ _ _ _ _ _ _ _ _ | show CW _ _ _ _ _ _ _ _ _ _ _ _ | (rintro _ _ ⟨rfl, rfl⟩; (try refine And.intro rfl ?_))); (try (conv => arg -1; simp (disch := omega) only [NSX, Nat.reduceBEq, Nat.reduceAdd, Nat.reduceMul, Int.reduceToNat, Nat.reduceSub, TY, slx, take16, drop16, dz, nums_length, B1, B2, e7, hld, hld2, hci, hv1, h1, hcl, eq_self, decide_true])))))
          | ((first | refine AWL.guard2 rfl rfl rfl rfl rfl rfl ?_ ?_ | refine CW.guard2 rfl rfl rfl rfl rfl rfl rfl rfl ?_ ?_) <;> (intro hc; (try simp only [Bool.not_true, Bool.not_false] at hc); first | (cases hc; done) | ((try simp only [hc]); (try simp only [beq_iff_eq, bne_iff_ne, decide_eq_true_eq, decide_eq_false_iff_not, beq_eq_false_iff_ne, bne_eq_false_iff_eq, ne_eq, Bool.not_eq_true, Bool.not_eq_false, Bool.not_eq_eq_eq_not, Bool.not_true, Bool.not_false, Decidable.not_not, Int.not_lt, Int.not_le] at hc); (try (exfalso; omega)); (try (guard_hyp hc : True; clear hc)))) <;> (try (first | (with_reducible show AWL _ _ _ _ (St.put _ _ _)) | (with_reducible show CW _ _ _ _ _ _ _ _ _ _ _ (St.put _ _ _))); (try (conv => arg -1; simp (disch := omega) only [NSX, Nat.reduceBEq, Nat.reduceAdd, Nat.reduceMul, Int.reduceToNat, Nat.reduceSub, TY, slx, take16, drop16, dz, nums_length, B1, B2, e7, hld, hld2, hci, hv1, h1, hcl, eq_self, decide_true]))))
          | (refine AWL.guard2 rfl rfl rfl rfl rfl rfl (fun hc => ?_) ?_; (cases hc; done))
          | ((first | ((show AW _ (.region _ _ true) _ _); refine AW.calm false [] [] hmix (by (repeat' (first | exact panOk_end | exact panOk_endM | refine panOk_then ?_ | refine panOk_block ?_ | refine QEq.pan (by assumption) ?_))) ?_ rfl ?_; (focus (as_aux_lemma => kernel_rfl))) | refine AWL.guardU rfl rfl rfl rfl rfl rfl ?_ | refine CW.guardU rfl rfl rfl rfl rfl rfl rfl rfl ?_); (try (conv => arg -1; simp (disch := omega) only [NSX, Nat.reduceBEq, Nat.reduceAdd, Nat.reduceMul, Int.reduceToNat, Nat.reduceSub, TY, slx, take16, drop16, dz, nums_length, B1, B2, e7, hld, hld2, hci, hv1, h1, hcl, eq_self, decide_true])))
          | refine CW.tail rfl ?_
          | (refine AW.cond rfl (fun hc => ?_) (fun hc => ?_) <;> first | (cases hc; done) | ((try simp only [beq_iff_eq, bne_iff_ne, decide_eq_true_eq, decide_eq_false_iff_not, beq_eq_false_iff_ne, bne_eq_false_iff_eq, ne_eq, Bool.not_eq_true, Bool.not_eq_false, Bool.not_eq_eq_eq_not, Bool.not_true, Bool.not_false, Decidable.not_not, Int.not_lt, Int.not_le] at hc); (try (exfalso; omega)); (try (guard_hyp hc : True; clear hc))))
          | ((refine EndQ.mk rfl rfl rfl ?_ ?_ ?_; (focus (first | exact Or.inl rfl | exact Or.inr rfl))) <;> (try simp (disch := omega) only [NSX, Nat.reduceBEq, Nat.reduceAdd, Nat.reduceMul, Int.reduceToNat, Nat.reduceSub, TY, slx, take16, drop16, dz, nums_length, B1, B2, e7, hld, hld2, hci, hv1, h1, hcl, eq_self, decide_true]))
          | (focus ((first | exact trivial | omega | (refine And.intro (by kernel_rfl) (And.intro ⟨_, (by first | exact nums_ints _ _ | rfl), (by first | exact nums_ints _ _ | rfl)⟩ (And.intro ?_ ?_)) <;> (first | rfl | assumption | (simp only [nums_length]; omega) | omega)) | (refine And.intro ?_ (And.intro ?_ ?_); (focus kernel_rfl); (focus kernel_rfl); (focus kernel_rfl)) | ((show newKs _ _ _ = true); kernel_rfl) | ((show FitV _ _ _ _ _ _); (repeat' (first | exact trivial | exact Or.inr (Or.inl rfl) | exact Or.inl rfl | exact Or.inr (Or.inr rfl) | refine And.intro ?_ ?_)); done) | assumption | ((first | refine ld_nums i3 _ _ ?_ | refine ld_nums i29 _ _ ?_ | refine ld_nums i5 _ _ ?_ | refine at_nums i3 _ _ ?_ | refine at_nums i29 _ _ ?_ | refine at_nums i5 _ _ ?_); first | assumption | omega | (simp only [List.length_append]; omega)) | (simp only [List.length_append, List.length_cons, List.length_nil, Nat.zero_add]; done) | exact hu0 | exact hu1 | exact hu2 | exact hu3 | (show _ ≤ _; omega) | (simp only [List.length_take, List.length_drop, List.length_append, List.length_cons, List.length_nil]; omega) | ((repeat' (first | exact trivial | exact rfl | exact Nat.le_of_ble_eq_true rfl | refine And.intro ?_ ?_ | fail)); done) | ((try simp (disch := omega) only [NSX, Nat.reduceBEq, Nat.reduceAdd, Nat.reduceMul, Int.reduceToNat, Nat.reduceSub, TY, slx, take16, drop16, dz, nums_length, B1, B2, e7, hld, hld2, hci, hv1, h1, hcl, eq_self, decide_true]); (repeat' (first | exact trivial | exact rfl | exact ⟨_, _, rfl⟩ | exact ⟨_, rfl⟩ | exact Nat.le_of_ble_eq_true rfl | exact Nat.zero_lt_succ _ | omega | (simp only [nums_length, toB_len] at *; omega) | refine And.intro ?_ ?_ | fail)); done)); done))
          | fail)
        all_goals try simp (disch := omega) only [NSX, Nat.reduceBEq, Nat.reduceAdd, Nat.reduceMul, Int.reduceToNat, Nat.reduceSub, TY, slx, take16, drop16, dz, nums_length, B1, B2, e7, hcl]
        all_goals first
          | exact ⟨vs.length - (i + 1), by omega, i + 1, rfl, by omega, rfl⟩
          | (exfalso; omega) | trace_state
      · rw [okTs_at (show i < ts.length by omega) h0] at hok; cases hok
    · by_cases hw0 : widthL ts = 0
      · have hchk : True := by simp only [TY, slx, take16, drop16, dz, nums_length, B1, B2, hT2, hXt2, hw0]
        repeat' (first
          | (refine AWL.opN (sl := SL) rfl rfl rfl trivial ?_; (try (conv => arg -1; simp (disch := omega) only [NSX, Nat.reduceBEq, Nat.reduceAdd, Nat.reduceMul, Int.reduceToNat, Nat.reduceSub, TY, slx, take16, drop16, dz, nums_length, B1, B2, hT2, hXt2, hw0])))
          | (refine AW.seqQ ?_; intro Qn hQn)
          | (refine AW.blockQ ?_; intro Qn hQn)
          | refine AW.region ?_
          | ((first | refine AW.skip ?_ | refine AW.ret ?_ | refine AW.exit ?_ | refine AWL.nil ?_ | refine CW.nil ?_); (repeat (first | refine QEq.mp (by assumption) ?_ | simp only [thenQ, Go.Abs.blockQ, ↓reduceIte, Nat.reduceEqDiff])))
          | refine FW.nil ?_
          | refine FW.pass rfl rfl ?_
          | refine FW.go rfl ?_
          | refine CW.skip rfl rfl ?_
          | refine CW.step rfl rfl rfl rfl rfl ?_
          | ((first
            | (refine AWL.boxF (t := 25) rfl rfl rfl rfl rfl ?_)
            | (refine AWL.allocF (t := 25) rfl rfl rfl rfl rfl rfl ?_)
            | (refine CWr.allocF (t := 25) rfl rfl rfl ?_ ?_)
            | (refine AWL.op (sl := SL) rfl rfl ?_ ?_)
            | (refine FW.float rfl rfl rfl rfl rfl ?_)
            | (refine CWr.op rfl ?_ ?_ ?_)
            | (refine CWr.assign rfl ?_ ?_)
            | (refine CWr.alloc rfl rfl rfl rfl ?_)
            | (refine CWr.build rfl rfl rfl rfl ?_ rfl rfl rfl ?_)
            | ((show AWL _ _ ({ dst := _, op := _, type := _, pos := _, after := _, guard := none } :: _) _ _); refine AWL.frzA rfl rfl ?_)
            | (refine AWL.callV (f := 10) rfl rfl rfl rfl ?_ (Nat.le_of_ble_eq_true rfl) rfl (awake_ok) ?_; (focus kernel_rfl))
            | (refine AWL.call (f := 10) rfl rfl rfl ?_ rfl (Nat.le_of_ble_eq_true rfl) rfl (awake_ok) ?_; (focus kernel_rfl))
            | (refine CWr.call (f := 10) rfl ?_ rfl (awake_ok) (fun _ _ h => h) ?_ ?_ ?_; (focus kernel_rfl))
            | (refine AWL.callV (f := 28) rfl rfl rfl rfl ?_ (Nat.le_of_ble_eq_true rfl) rfl (hput) ?_; (focus kernel_rfl))
            | (refine AWL.call (f := 28) rfl rfl rfl ?_ rfl (Nat.le_of_ble_eq_true rfl) rfl (hput) ?_; (focus kernel_rfl))
            | (refine CWr.call (f := 28) rfl ?_ rfl (hput) (fun _ _ h => h) ?_ ?_ ?_; (focus kernel_rfl))
            | (refine AWL.callV (f := 30) rfl rfl rfl rfl ?_ (Nat.le_of_ble_eq_true rfl) rfl (htake0) ?_; (focus kernel_rfl))
            | (refine AWL.call (f := 30) rfl rfl rfl ?_ rfl (Nat.le_of_ble_eq_true rfl) rfl (htake0) ?_; (focus kernel_rfl))
            | (refine CWr.call (f := 30) rfl ?_ rfl (htake0) (fun _ _ h => h) ?_ ?_ ?_; (focus kernel_rfl))
            | (refine AWL.callV (f := 30) rfl rfl rfl rfl ?_ (Nat.le_of_ble_eq_true rfl) rfl (take_at _ _ _ _ ?_ ?_ ?_ hlen) ?_; (focus kernel_rfl))
            | (refine AWL.call (f := 30) rfl rfl rfl ?_ rfl (Nat.le_of_ble_eq_true rfl) rfl (take_at _ _ _ _ ?_ ?_ ?_ hlen) ?_; (focus kernel_rfl))
            | (refine CWr.call (f := 30) rfl ?_ rfl (take_at _ _ _ _ ?_ ?_ ?_ hlen) (fun _ _ h => h) ?_ ?_ ?_; (focus kernel_rfl))
            | (refine AWL.callV (f := 16) rfl rfl rfl rfl ?_ (Nat.le_of_ble_eq_true rfl) rfl (get_ok _ hv1 hv2 _ _) ?_; (focus kernel_rfl))
            | (refine AWL.call (f := 16) rfl rfl rfl ?_ rfl (Nat.le_of_ble_eq_true rfl) rfl (get_ok _ hv1 hv2 _ _) ?_; (focus kernel_rfl))
            | (refine CWr.call (f := 16) rfl ?_ rfl (get_ok _ hv1 hv2 _ _) (fun _ _ h => h) ?_ ?_ ?_; (focus kernel_rfl))
            | (refine AWL.callV (f := 11) rfl rfl rfl rfl ?_ (Nat.le_of_ble_eq_true rfl) rfl (hof32) ?_; (focus kernel_rfl))
            | (refine AWL.call (f := 11) rfl rfl rfl ?_ rfl (Nat.le_of_ble_eq_true rfl) rfl (hof32) ?_; (focus kernel_rfl))
            | (refine CWr.call (f := 11) rfl ?_ rfl (hof32) (fun _ _ h => h) ?_ ?_ ?_; (focus kernel_rfl))
            | (refine AWL.callV (f := 11) rfl rfl rfl rfl ?_ (Nat.le_of_ble_eq_true rfl) rfl (hof64) ?_; (focus kernel_rfl))
            | (refine AWL.call (f := 11) rfl rfl rfl ?_ rfl (Nat.le_of_ble_eq_true rfl) rfl (hof64) ?_; (focus kernel_rfl))
            | (refine CWr.call (f := 11) rfl ?_ rfl (hof64) (fun _ _ h => h) ?_ ?_ ?_; (focus kernel_rfl))
            | fail) <;> (try ((first | show AWL _ _ _ _ _ | show AW _ _ _ _ | show FW _ _ _ _ _ _ _ _ _ _ | show CW _ _ _ _ _ _ _ _ _ _ _ _ | (rintro _ _ ⟨rfl, rfl⟩; (try refine And.intro rfl ?_))); (try (conv => arg -1; simp (disch := omega) only [NSX, Nat.reduceBEq, Nat.reduceAdd, Nat.reduceMul, Int.reduceToNat, Nat.reduceSub, TY, slx, take16, drop16, dz, nums_length, B1, B2, hT2, hXt2, hw0])))))
          | ((first | refine AWL.guard2 rfl rfl rfl rfl rfl rfl ?_ ?_ | refine CW.guard2 rfl rfl rfl rfl rfl rfl rfl rfl ?_ ?_) <;> (intro hc; (try simp only [Bool.not_true, Bool.not_false] at hc); first | (cases hc; done) | ((try simp only [hc]); (try simp only [beq_iff_eq, bne_iff_ne, decide_eq_true_eq, decide_eq_false_iff_not, beq_eq_false_iff_ne, bne_eq_false_iff_eq, ne_eq, Bool.not_eq_true, Bool.not_eq_false, Bool.not_eq_eq_eq_not, Bool.not_true, Bool.not_false, Decidable.not_not, Int.not_lt, Int.not_le] at hc); (try (exfalso; omega)); (try (guard_hyp hc : True; clear hc)))) <;> (try (first | (with_reducible show AWL _ _ _ _ (St.put _ _ _)) | (with_reducible show CW _ _ _ _ _ _ _ _ _ _ _ (St.put _ _ _))); (try (conv => arg -1; simp (disch := omega) only [NSX, Nat.reduceBEq, Nat.reduceAdd, Nat.reduceMul, Int.reduceToNat, Nat.reduceSub, TY, slx, take16, drop16, dz, nums_length, B1, B2, hT2, hXt2, hw0]))))
          | (refine AWL.guard2 rfl rfl rfl rfl rfl rfl (fun hc => ?_) ?_; (cases hc; done))
          | ((first | ((show AW _ (.region _ _ true) _ _); refine AW.calm false [] [] hmix (by (repeat' (first | exact panOk_end | exact panOk_endM | refine panOk_then ?_ | refine panOk_block ?_ | refine QEq.pan (by assumption) ?_))) ?_ rfl ?_; (focus (as_aux_lemma => kernel_rfl))) | refine AWL.guardU rfl rfl rfl rfl rfl rfl ?_ | refine CW.guardU rfl rfl rfl rfl rfl rfl rfl rfl ?_); (try (conv => arg -1; simp (disch := omega) only [NSX, Nat.reduceBEq, Nat.reduceAdd, Nat.reduceMul, Int.reduceToNat, Nat.reduceSub, TY, slx, take16, drop16, dz, nums_length, B1, B2, hT2, hXt2, hw0])))
          | refine CW.tail rfl ?_
          | (refine AW.cond rfl (fun hc => ?_) (fun hc => ?_) <;> first | (cases hc; done) | ((try simp only [beq_iff_eq, bne_iff_ne, decide_eq_true_eq, decide_eq_false_iff_not, beq_eq_false_iff_ne, bne_eq_false_iff_eq, ne_eq, Bool.not_eq_true, Bool.not_eq_false, Bool.not_eq_eq_eq_not, Bool.not_true, Bool.not_false, Decidable.not_not, Int.not_lt, Int.not_le] at hc); (try (exfalso; omega)); (try (guard_hyp hc : True; clear hc))))
          | ((refine EndQ.mk rfl rfl rfl ?_ ?_ ?_; (focus (first | exact Or.inl rfl | exact Or.inr rfl))) <;> (try simp (disch := omega) only [NSX, Nat.reduceBEq, Nat.reduceAdd, Nat.reduceMul, Int.reduceToNat, Nat.reduceSub, TY, slx, take16, drop16, dz, nums_length, B1, B2, hT2, hXt2, hw0]))
          | (focus ((first | exact trivial | omega | (refine And.intro (by kernel_rfl) (And.intro ⟨_, (by first | exact nums_ints _ _ | rfl), (by first | exact nums_ints _ _ | rfl)⟩ (And.intro ?_ ?_)) <;> (first | rfl | assumption | (simp only [nums_length]; omega) | omega)) | (refine And.intro ?_ (And.intro ?_ ?_); (focus kernel_rfl); (focus kernel_rfl); (focus kernel_rfl)) | ((show newKs _ _ _ = true); kernel_rfl) | ((show FitV _ _ _ _ _ _); (repeat' (first | exact trivial | exact Or.inr (Or.inl rfl) | exact Or.inl rfl | exact Or.inr (Or.inr rfl) | refine And.intro ?_ ?_)); done) | assumption | ((first | refine ld_nums i3 _ _ ?_ | refine ld_nums i29 _ _ ?_ | refine ld_nums i5 _ _ ?_ | refine at_nums i3 _ _ ?_ | refine at_nums i29 _ _ ?_ | refine at_nums i5 _ _ ?_); first | assumption | omega | (simp only [List.length_append]; omega)) | (simp only [List.length_append, List.length_cons, List.length_nil, Nat.zero_add]; done) | exact hu0 | exact hu1 | exact hu2 | exact hu3 | (show _ ≤ _; omega) | (simp only [List.length_take, List.length_drop, List.length_append, List.length_cons, List.length_nil]; omega) | ((repeat' (first | exact trivial | exact rfl | exact Nat.le_of_ble_eq_true rfl | refine And.intro ?_ ?_ | fail)); done) | ((try simp (disch := omega) only [NSX, Nat.reduceBEq, Nat.reduceAdd, Nat.reduceMul, Int.reduceToNat, Nat.reduceSub, TY, slx, take16, drop16, dz, nums_length, B1, B2, hT2, hXt2, hw0]); (repeat' (first | exact trivial | exact rfl | exact ⟨_, _, rfl⟩ | exact ⟨_, rfl⟩ | exact Nat.le_of_ble_eq_true rfl | exact Nat.zero_lt_succ _ | omega | (simp only [nums_length, toB_len] at *; omega) | refine And.intro ?_ ?_ | fail)); done)); done))
          | fail)
        all_goals first | exact ⟨trivial, trivial⟩ | exact ⟨rfl, trivial⟩ | exact ⟨rfl, rfl⟩ | exact ⟨trivial, rfl⟩ | (exfalso; omega) | trace_state
      · have hT3 := hT3 hw0
        have e8 : IntKind.i64.wrap (((widthL ts : Nat) : Int) - 1) = ((widthL ts - 1 : Nat) : Int) := by rw [wrap64_id _ (by omega) (by omega)]; omega
        have hchk : True := by simp only [TY, slx, take16, drop16, dz, nums_length, B1, B2, hT2, hT3, hXt2, e8]
        repeat' (first
          | (refine AWL.opN (sl := SL) rfl rfl rfl trivial ?_; (try (conv => arg -1; simp (disch := omega) only [NSX, Nat.reduceBEq, Nat.reduceAdd, Nat.reduceMul, Int.reduceToNat, Nat.reduceSub, TY, slx, take16, drop16, dz, nums_length, B1, B2, hT2, hT3, hXt2, e8])))
          | (refine AW.seqQ ?_; intro Qn hQn)
          | (refine AW.blockQ ?_; intro Qn hQn)
          | refine AW.region ?_
          | ((first | refine AW.skip ?_ | refine AW.ret ?_ | refine AW.exit ?_ | refine AWL.nil ?_ | refine CW.nil ?_); (repeat (first | refine QEq.mp (by assumption) ?_ | simp only [thenQ, Go.Abs.blockQ, ↓reduceIte, Nat.reduceEqDiff])))
          | refine FW.nil ?_
          | refine FW.pass rfl rfl ?_
          | refine FW.go rfl ?_
          | refine CW.skip rfl rfl ?_
          | refine CW.step rfl rfl rfl rfl rfl ?_
          | ((first
            | (refine AWL.boxF (t := 25) rfl rfl rfl rfl rfl ?_)
            | (refine AWL.allocF (t := 25) rfl rfl rfl rfl rfl rfl ?_)
            | (refine CWr.allocF (t := 25) rfl rfl rfl ?_ ?_)
            | (refine AWL.op (sl := SL) rfl rfl ?_ ?_)
            | (refine FW.float rfl rfl rfl rfl rfl ?_)
            | (refine CWr.op rfl ?_ ?_ ?_)
            | (refine CWr.assign rfl ?_ ?_)
            | (refine CWr.alloc rfl rfl rfl rfl ?_)
            | (refine CWr.build rfl rfl rfl rfl ?_ rfl rfl rfl ?_)
            | ((show AWL _ _ ({ dst := _, op := _, type := _, pos := _, after := _, guard := none } :: _) _ _); refine AWL.frzA rfl rfl ?_)
            | (refine AWL.callV (f := 10) rfl rfl rfl rfl ?_ (Nat.le_of_ble_eq_true rfl) rfl (awake_ok) ?_; (focus kernel_rfl))
            | (refine AWL.call (f := 10) rfl rfl rfl ?_ rfl (Nat.le_of_ble_eq_true rfl) rfl (awake_ok) ?_; (focus kernel_rfl))
            | (refine CWr.call (f := 10) rfl ?_ rfl (awake_ok) (fun _ _ h => h) ?_ ?_ ?_; (focus kernel_rfl))
            | (refine AWL.callV (f := 28) rfl rfl rfl rfl ?_ (Nat.le_of_ble_eq_true rfl) rfl (hput) ?_; (focus kernel_rfl))
            | (refine AWL.call (f := 28) rfl rfl rfl ?_ rfl (Nat.le_of_ble_eq_true rfl) rfl (hput) ?_; (focus kernel_rfl))
            | (refine CWr.call (f := 28) rfl ?_ rfl (hput) (fun _ _ h => h) ?_ ?_ ?_; (focus kernel_rfl))
            | (refine AWL.callV (f := 30) rfl rfl rfl rfl ?_ (Nat.le_of_ble_eq_true rfl) rfl (htake0) ?_; (focus kernel_rfl))
            | (refine AWL.call (f := 30) rfl rfl rfl ?_ rfl (Nat.le_of_ble_eq_true rfl) rfl (htake0) ?_; (focus kernel_rfl))
            | (refine CWr.call (f := 30) rfl ?_ rfl (htake0) (fun _ _ h => h) ?_ ?_ ?_; (focus kernel_rfl))
            | (refine AWL.callV (f := 30) rfl rfl rfl rfl ?_ (Nat.le_of_ble_eq_true rfl) rfl (take_at _ _ _ _ ?_ ?_ ?_ hlen) ?_; (focus kernel_rfl))
            | (refine AWL.call (f := 30) rfl rfl rfl ?_ rfl (Nat.le_of_ble_eq_true rfl) rfl (take_at _ _ _ _ ?_ ?_ ?_ hlen) ?_; (focus kernel_rfl))
            | (refine CWr.call (f := 30) rfl ?_ rfl (take_at _ _ _ _ ?_ ?_ ?_ hlen) (fun _ _ h => h) ?_ ?_ ?_; (focus kernel_rfl))
            | (refine AWL.callV (f := 16) rfl rfl rfl rfl ?_ (Nat.le_of_ble_eq_true rfl) rfl (get_ok _ hv1 hv2 _ _) ?_; (focus kernel_rfl))
            | (refine AWL.call (f := 16) rfl rfl rfl ?_ rfl (Nat.le_of_ble_eq_true rfl) rfl (get_ok _ hv1 hv2 _ _) ?_; (focus kernel_rfl))
            | (refine CWr.call (f := 16) rfl ?_ rfl (get_ok _ hv1 hv2 _ _) (fun _ _ h => h) ?_ ?_ ?_; (focus kernel_rfl))
            | (refine AWL.callV (f := 11) rfl rfl rfl rfl ?_ (Nat.le_of_ble_eq_true rfl) rfl (hof32) ?_; (focus kernel_rfl))
            | (refine AWL.call (f := 11) rfl rfl rfl ?_ rfl (Nat.le_of_ble_eq_true rfl) rfl (hof32) ?_; (focus kernel_rfl))
            | (refine CWr.call (f := 11) rfl ?_ rfl (hof32) (fun _ _ h => h) ?_ ?_ ?_; (focus kernel_rfl))
            | (refine AWL.callV (f := 11) rfl rfl rfl rfl ?_ (Nat.le_of_ble_eq_true rfl) rfl (hof64) ?_; (focus kernel_rfl))
            | (refine AWL.call (f := 11) rfl rfl rfl ?_ rfl (Nat.le_of_ble_eq_true rfl) rfl (hof64) ?_; (focus kernel_rfl))
            | (refine CWr.call (f := 11) rfl ?_ rfl (hof64) (fun _ _ h => h) ?_ ?_ ?_; (focus kernel_rfl))
            | fail) <;> (try ((first | show AWL _ _ _ _ _ | show AW _ _ _ _ | show FW _ _ _ _ _ _ _ _ _ _ | show CW _ _ _ _ _ _ _ _ _ _ _ _ | (rintro _ _ ⟨rfl, rfl⟩; (try refine And.intro rfl ?_))); (try (conv => arg -1; simp (disch := omega) only [NSX, Nat.reduceBEq, Nat.reduceAdd, Nat.reduceMul, Int.reduceToNat, Nat.reduceSub, TY, slx, take16, drop16, dz, nums_length, B1, B2, hT2, hT3, hXt2, e8])))))
          | ((first | refine AWL.guard2 rfl rfl rfl rfl rfl rfl ?_ ?_ | refine CW.guard2 rfl rfl rfl rfl rfl rfl rfl rfl ?_ ?_) <;> (intro hc; (try simp only [Bool.not_true, Bool.not_false] at hc); first | (cases hc; done) | ((try simp only [hc]); (try simp only [beq_iff_eq, bne_iff_ne, decide_eq_true_eq, decide_eq_false_iff_not, beq_eq_false_iff_ne, bne_eq_false_iff_eq, ne_eq, Bool.not_eq_true, Bool.not_eq_false, Bool.not_eq_eq_eq_not, Bool.not_true, Bool.not_false, Decidable.not_not, Int.not_lt, Int.not_le] at hc); (try (exfalso; omega)); (try (guard_hyp hc : True; clear hc)))) <;> (try (first | (with_reducible show AWL _ _ _ _ (St.put _ _ _)) | (with_reducible show CW _ _ _ _ _ _ _ _ _ _ _ (St.put _ _ _))); (try (conv => arg -1; simp (disch := omega) only [NSX, Nat.reduceBEq, Nat.reduceAdd, Nat.reduceMul, Int.reduceToNat, Nat.reduceSub, TY, slx, take16, drop16, dz, nums_length, B1, B2, hT2, hT3, hXt2, e8]))))
          | (refine AWL.guard2 rfl rfl rfl rfl rfl rfl (fun hc => ?_) ?_; (cases hc; done))
          | ((first | ((show AW _ (.region _ _ true) _ _); refine AW.calm false [] [] hmix (by (repeat' (first | exact panOk_end | exact panOk_endM | refine panOk_then ?_ | refine panOk_block ?_ | refine QEq.pan (by assumption) ?_))) ?_ rfl ?_; (focus (as_aux_lemma => kernel_rfl))) | refine AWL.guardU rfl rfl rfl rfl rfl rfl ?_ | refine CW.guardU rfl rfl rfl rfl rfl rfl rfl rfl ?_); (try (conv => arg -1; simp (disch := omega) only [NSX, Nat.reduceBEq, Nat.reduceAdd, Nat.reduceMul, Int.reduceToNat, Nat.reduceSub, TY, slx, take16, drop16, dz, nums_length, B1, B2, hT2, hT3, hXt2, e8])))
          | refine CW.tail rfl ?_
          | (refine AW.cond rfl (fun hc => ?_) (fun hc => ?_) <;> first | (cases hc; done) | ((try simp only [beq_iff_eq, bne_iff_ne, decide_eq_true_eq, decide_eq_false_iff_not, beq_eq_false_iff_ne, bne_eq_false_iff_eq, ne_eq, Bool.not_eq_true, Bool.not_eq_false, Bool.not_eq_eq_eq_not, Bool.not_true, Bool.not_false, Decidable.not_not, Int.not_lt, Int.not_le] at hc); (try (exfalso; omega)); (try (guard_hyp hc : True; clear hc))))
          | ((refine EndQ.mk rfl rfl rfl ?_ ?_ ?_; (focus (first | exact Or.inl rfl | exact Or.inr rfl))) <;> (try simp (disch := omega) only [NSX, Nat.reduceBEq, Nat.reduceAdd, Nat.reduceMul, Int.reduceToNat, Nat.reduceSub, TY, slx, take16, drop16, dz, nums_length, B1, B2, hT2, hT3, hXt2, e8]))
          | (focus ((first | exact trivial | omega | (refine And.intro (by kernel_rfl) (And.intro ⟨_, (by first | exact nums_ints _ _ | rfl), (by first | exact nums_ints _ _ | rfl)⟩ (And.intro ?_ ?_)) <;> (first | rfl | assumption | (simp only [nums_length]; omega) | omega)) | (refine And.intro ?_ (And.intro ?_ ?_); (focus kernel_rfl); (focus kernel_rfl); (focus kernel_rfl)) | ((show newKs _ _ _ = true); kernel_rfl) | ((show FitV _ _ _ _ _ _); (repeat' (first | exact trivial | exact Or.inr (Or.inl rfl) | exact Or.inl rfl | exact Or.inr (Or.inr rfl) | refine And.intro ?_ ?_)); done) | assumption | ((first | refine ld_nums i3 _ _ ?_ | refine ld_nums i29 _ _ ?_ | refine ld_nums i5 _ _ ?_ | refine at_nums i3 _ _ ?_ | refine at_nums i29 _ _ ?_ | refine at_nums i5 _ _ ?_); first | assumption | omega | (simp only [List.length_append]; omega)) | (simp only [List.length_append, List.length_cons, List.length_nil, Nat.zero_add]; done) | exact hu0 | exact hu1 | exact hu2 | exact hu3 | (show _ ≤ _; omega) | (simp only [List.length_take, List.length_drop, List.length_append, List.length_cons, List.length_nil]; omega) | ((repeat' (first | exact trivial | exact rfl | exact Nat.le_of_ble_eq_true rfl | refine And.intro ?_ ?_ | fail)); done) | ((try simp (disch := omega) only [NSX, Nat.reduceBEq, Nat.reduceAdd, Nat.reduceMul, Int.reduceToNat, Nat.reduceSub, TY, slx, take16, drop16, dz, nums_length, B1, B2, hT2, hT3, hXt2, e8]); (repeat' (first | exact trivial | exact rfl | exact ⟨_, _, rfl⟩ | exact ⟨_, rfl⟩ | exact Nat.le_of_ble_eq_true rfl | exact Nat.zero_lt_succ _ | omega | (simp only [nums_length, toB_len] at *; omega) | refine And.intro ?_ ?_ | fail)); done)); done))
          | fail)
        all_goals first | exact ⟨trivial, trivial⟩ | exact ⟨rfl, trivial⟩ | exact ⟨rfl, rfl⟩ | exact ⟨trivial, rfl⟩ | (exfalso; omega) | trace_state
theorem pairBack_ok (ts : List Int) (vs : List (List Int)) (hv : vecs vs) (hlen : ts.length ≤ 1048576) :
    AC Try.prog 8 [.view ts.length 1 (nums .i64 ts), .view vs.length 16 (vecC vs)] (fun r m => r = .bool true ∧ m = []) := by
  cases hok : okTs ts with
  | false => exact pairBack_bad ts vs hv hlen hok
  | true =>
    by_cases hl : ts.length = vs.length
    · exact pairBack_yes ts vs hv hlen hok hl
    · exact pairBack_len ts vs hv hlen hok hl
end Go.Proofs.Ytopdealfmajbhaa
