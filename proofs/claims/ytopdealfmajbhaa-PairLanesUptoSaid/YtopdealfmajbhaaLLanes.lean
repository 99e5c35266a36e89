/- PairLanes. -/
import Derived.Test.YtopdealfmajbhaaV5
import Derived.Test.YtopdealfmajbhaaAwake
import Derived.Test.YtopdealfmajbhaaPlain
import Derived.Test.YtopdealfmajbhaaSet
import Derived.Test.YtopdealfmajbhaaRSet
import Derived.Test.YtopdealfmajbhaaGet
import Derived.Test.YtopdealfmajbhaaRGet
import Derived.Test.YtopdealfmajbhaaRSigned
import Derived.Test.YtopdealfmajbhaaAll
import Derived.Test.YtopdealfmajbhaaRAll
import Derived.Test.YtopdealfmajbhaaRSplit
import Derived.Test.YtopdealfmajbhaaJoin
import Derived.Test.YtopdealfmajbhaaRJoin
import Derived.Test.YtopdealfmajbhaaSame
namespace Go.Proofs.Ytopdealfmajbhaa
set_option linter.unusedSimpArgs false
set_option linter.unusedVariables false
open Go Go.Abs
attribute [local irreducible] AW AWL AC FW CW CWr IntKind.wrap

/-- a vector, a width, a lane, a number -/
abbrev AtS := List Int × Int × Int × Int
def at1 (x : AtS) : List V := nums .u8 x.1 ++ [.int .i64 x.2.1, .int .i64 x.2.2.1, .int .u64 x.2.2.2]
def atC : List AtS → List V
  | [] => []
  | x :: l => at1 x ++ atC l
def okAt (x : AtS) : Prop := x.1.length = 16 ∧ bytes x.1 ∧ 0 ≤ x.2.2.2 ∧ x.2.2.2 < 2 ^ 64
def nAt : AtS := ([], 0, 0, 0)
theorem at1_len {x : AtS} (h : okAt x) : (at1 x).length = 19 := by simp [at1, nums_length, h.1]
theorem atC_len {l : List AtS} (h : ∀ x ∈ l, okAt x) : (atC l).length = l.length * 19 := by
  induction l with
  | nil => rfl
  | cons x l ih => rw [atC, List.length_append, at1_len (h x (List.mem_cons_self ..)), ih (fun y hy => h y (List.mem_cons_of_mem _ hy)), List.length_cons]; omega
theorem atC_drop {l : List AtS} (h : ∀ x ∈ l, okAt x) {k : Nat} (hk : k < l.length) : (atC l).drop (k * 19) = at1 (l.getD k nAt) ++ atC (l.drop (k + 1)) := by
  induction l generalizing k with
  | nil => exact absurd hk (Nat.not_lt_zero _)
  | cons x l ih =>
    have hx := at1_len (h x (List.mem_cons_self ..))
    cases k with
    | zero => simp [atC]
    | succ k =>
      rw [atC, show (k + 1) * 19 = (at1 x).length + k * 19 from by rw [hx]; omega, List.drop_append, List.drop_of_length_le (by omega), List.nil_append, Nat.add_sub_cancel_left, ih (fun y hy => h y (List.mem_cons_of_mem _ hy)) (by simpa using hk)]
      simp
theorem at_mem {l : List AtS} (h : ∀ x ∈ l, okAt x) {k : Nat} (hk : k < l.length) : okAt (l.getD k nAt) := by
  have e : l.getD k nAt = l[k] := by simp [List.getD, hk]
  rw [e]; exact h _ (List.getElem_mem hk)
theorem at_load {l : List AtS} (h : ∀ x ∈ l, okAt x) {k : Nat} (hk : k < l.length) : List.take 19 (List.drop (k * 19) (atC l)) = at1 (l.getD k nAt) := by
  rw [atC_drop h hk, List.take_append_of_le_length (Nat.le_of_eq (at1_len (at_mem h hk)).symm), List.take_of_length_le (Nat.le_of_eq (at1_len (at_mem h hk)))]
theorem at_room {l : List AtS} (h : ∀ x ∈ l, okAt x) {k : Nat} (hk : k < l.length) : 19 ≤ (List.drop (k * 19) (atC l)).length := by
  rw [List.length_drop, atC_len h]; omega
theorem all_look (v : List Int) (hl : v.length = 16) (hb : bytes v) (w : Int) : AC Try.prog 14 [.fagg (nums .u8 v), .int .i64 w] (fun r m => r = .view (all v w).length 1 (nums .u64 (all v w)) ∧ m = []) :=
  (all_ok v hl hb w).look (by rw [nums_length, Nat.mul_one])
theorem rall_look (v : List Int) (hl : v.length = 16) (hb : bytes v) (w : Int) : AC Try.prog 25 [.fagg (nums .u8 v), .int .i64 w] (fun r m => r = .view (all v w).length 1 (nums .u64 (all v w)) ∧ m = []) :=
  (rall_ok v hl hb w).look (by rw [nums_length, Nat.mul_one])
def L6 (l : List AtS) (i : Int) : St := { n := 115, slots := [(0, .view l.length 19 (atC l)), (2, .bool false), (3, .int .i64 i)], mem := [] }
theorem all_len (v : List Int) (w : Int) : (all v w).length ≤ 16 := by
  unfold all; rw [List.length_map, List.length_range]
  unfold lanes; split
  · exact Nat.le_refl _
  · split
    · decide
    · split
      · decide
      · split <;> decide
theorem xor_bound (x : Int) : 0 ≤ bitsOp .xor .u64 IntKind.u64.max x ∧ bitsOp .xor .u64 IntKind.u64.max x < 2 ^ 64 := by
  have e : bitsOp .xor .u64 IntKind.u64.max x = IntKind.u64.wrap (BitVec.ofInt IntKind.u64.bits IntKind.u64.max ^^^ BitVec.ofInt IntKind.u64.bits x).toNat := rfl
  rw [e, IntKind.wrap_u64]; simp only [Int.reducePow]; omega
set_option maxRecDepth 8000 in
set_option maxHeartbeats 12800000 in
theorem pairLanes_ok (l : List AtS) (h : ∀ x ∈ l, okAt x) (hlen : l.length ≤ 1048576) :
    AC Try.prog 6 [.view l.length 19 (atC l)] (fun r m => r = .bool true ∧ m = []) := by
  have hv1 : True := trivial
  have hv2 : True := trivial
  have hx : True ∧ True := ⟨trivial, trivial⟩
  have hy : True ∧ True := ⟨trivial, trivial⟩
  refine AC.enter Try.func6 rfl (Nat.le_of_ble_eq_true rfl) ?_
  simp only [Try.f6]
  have hchk : True := by simp only [TY, slx, take16, drop16, dz, nums_length, L6]
  repeat' (first
    | (refine AWL.opN (sl := SL) rfl rfl rfl trivial ?_; (try (conv => arg -1; simp (disch := omega) only [NSX, Nat.reduceBEq, Nat.reduceAdd, Nat.reduceMul, Int.reduceToNat, Nat.reduceSub, TY, slx, take16, drop16, dz, nums_length, L6])))
    | (refine AW.seqQ ?_; intro Qn hQn)
    | (refine AW.blockQ ?_; intro Qn hQn)
    | refine AW.region ?_
    | ((first | refine AW.skip ?_ | refine AW.ret ?_ | refine AW.exit ?_ | refine AWL.nil ?_ | refine CW.nil ?_); (repeat (first | refine QEq.mp (by assumption) ?_ | simp only [thenQ, Go.Abs.blockQ, ↓reduceIte, Nat.reduceEqDiff])))
    | refine FW.nil ?_
    | refine FW.pass rfl rfl ?_
    | refine FW.go rfl ?_
    | refine CW.skip rfl rfl ?_
    | refine CW.step rfl rfl rfl rfl rfl ?_
    | ((first
      | (refine AWL.boxF (t := 31) rfl rfl rfl rfl rfl ?_)
      | (refine AWL.allocF (t := 31) rfl rfl rfl rfl rfl rfl ?_)
      | (refine CWr.allocF (t := 31) rfl rfl rfl ?_ ?_)
      | (refine AWL.boxF (t := 25) rfl rfl rfl rfl rfl ?_)
      | (refine AWL.allocF (t := 25) rfl rfl rfl rfl rfl rfl ?_)
      | (refine CWr.allocF (t := 25) rfl rfl rfl ?_ ?_)
      | (refine AWL.op (sl := SL) rfl rfl ?_ ?_)
      | (refine FW.float rfl rfl rfl rfl rfl ?_)
      | (refine CWr.op rfl ?_ ?_ ?_)
      | (refine CWr.assign rfl ?_ ?_)
      | (refine CWr.alloc rfl rfl rfl rfl ?_)
      | (refine CWr.build rfl rfl rfl rfl ?_ rfl rfl rfl ?_)
      | (refine AWL.frzA rfl rfl ?_)
      | (refine AWL.callV (f := 10) rfl rfl rfl rfl ?_ (Nat.le_of_ble_eq_true rfl) rfl (awake_ok) ?_; (focus kernel_rfl))
      | (refine AWL.call (f := 10) rfl rfl rfl ?_ rfl (Nat.le_of_ble_eq_true rfl) rfl (awake_ok) ?_; (focus kernel_rfl))
      | (refine CWr.call (f := 10) rfl ?_ rfl (awake_ok) (fun _ _ h => h) ?_ ?_ ?_; (focus kernel_rfl))
      | (refine AWL.callV (f := 13) rfl rfl rfl rfl ?_ (Nat.le_of_ble_eq_true rfl) rfl (lanes_ok _) ?_; (focus kernel_rfl))
      | (refine AWL.call (f := 13) rfl rfl rfl ?_ rfl (Nat.le_of_ble_eq_true rfl) rfl (lanes_ok _) ?_; (focus kernel_rfl))
      | (refine CWr.call (f := 13) rfl ?_ rfl (lanes_ok _) (fun _ _ h => h) ?_ ?_ ?_; (focus kernel_rfl))
      | (refine AWL.callV (f := 20) rfl rfl rfl rfl ?_ (Nat.le_of_ble_eq_true rfl) rfl (rlanes_ok _) ?_; (focus kernel_rfl))
      | (refine AWL.call (f := 20) rfl rfl rfl ?_ rfl (Nat.le_of_ble_eq_true rfl) rfl (rlanes_ok _) ?_; (focus kernel_rfl))
      | (refine CWr.call (f := 20) rfl ?_ rfl (rlanes_ok _) (fun _ _ h => h) ?_ ?_ ?_; (focus kernel_rfl))
      | (refine AWL.callV (f := 16) rfl rfl rfl rfl ?_ (Nat.le_of_ble_eq_true rfl) rfl (get_ok _ hv1 hv2 _ _) ?_; (focus kernel_rfl))
      | (refine AWL.call (f := 16) rfl rfl rfl ?_ rfl (Nat.le_of_ble_eq_true rfl) rfl (get_ok _ hv1 hv2 _ _) ?_; (focus kernel_rfl))
      | (refine CWr.call (f := 16) rfl ?_ rfl (get_ok _ hv1 hv2 _ _) (fun _ _ h => h) ?_ ?_ ?_; (focus kernel_rfl))
      | (refine AWL.callV (f := 21) rfl rfl rfl rfl ?_ (Nat.le_of_ble_eq_true rfl) rfl (rget_ok _ hv1 hv2 _ _) ?_; (focus kernel_rfl))
      | (refine AWL.call (f := 21) rfl rfl rfl ?_ rfl (Nat.le_of_ble_eq_true rfl) rfl (rget_ok _ hv1 hv2 _ _) ?_; (focus kernel_rfl))
      | (refine CWr.call (f := 21) rfl ?_ rfl (rget_ok _ hv1 hv2 _ _) (fun _ _ h => h) ?_ ?_ ?_; (focus kernel_rfl))
      | (refine AWL.callV (f := 17) rfl rfl rfl rfl ?_ (Nat.le_of_ble_eq_true rfl) rfl (signed_ok _ hv1 hv2 _ _) ?_; (focus kernel_rfl))
      | (refine AWL.call (f := 17) rfl rfl rfl ?_ rfl (Nat.le_of_ble_eq_true rfl) rfl (signed_ok _ hv1 hv2 _ _) ?_; (focus kernel_rfl))
      | (refine CWr.call (f := 17) rfl ?_ rfl (signed_ok _ hv1 hv2 _ _) (fun _ _ h => h) ?_ ?_ ?_; (focus kernel_rfl))
      | (refine AWL.callV (f := 22) rfl rfl rfl rfl ?_ (Nat.le_of_ble_eq_true rfl) rfl (rsigned_ok _ hv1 hv2 _ _) ?_; (focus kernel_rfl))
      | (refine AWL.call (f := 22) rfl rfl rfl ?_ rfl (Nat.le_of_ble_eq_true rfl) rfl (rsigned_ok _ hv1 hv2 _ _) ?_; (focus kernel_rfl))
      | (refine CWr.call (f := 22) rfl ?_ rfl (rsigned_ok _ hv1 hv2 _ _) (fun _ _ h => h) ?_ ?_ ?_; (focus kernel_rfl))
      | (refine AWL.callV (f := 15) rfl rfl rfl rfl ?_ (Nat.le_of_ble_eq_true rfl) rfl (set_walk _ hv1 hv2 _ _ _ hx.1) ?_; (focus kernel_rfl))
      | (refine AWL.call (f := 15) rfl rfl rfl ?_ rfl (Nat.le_of_ble_eq_true rfl) rfl (set_walk _ hv1 hv2 _ _ _ hx.1) ?_; (focus kernel_rfl))
      | (refine CWr.call (f := 15) rfl ?_ rfl (set_walk _ hv1 hv2 _ _ _ hx.1) (fun _ _ h => h) ?_ ?_ ?_; (focus kernel_rfl))
      | (refine AWL.callV (f := 23) rfl rfl rfl rfl ?_ (Nat.le_of_ble_eq_true rfl) rfl (rset_ok _ hv1 hv2 _ _ _ hx.1 hx.2) ?_; (focus kernel_rfl))
      | (refine AWL.call (f := 23) rfl rfl rfl ?_ rfl (Nat.le_of_ble_eq_true rfl) rfl (rset_ok _ hv1 hv2 _ _ _ hx.1 hx.2) ?_; (focus kernel_rfl))
      | (refine CWr.call (f := 23) rfl ?_ rfl (rset_ok _ hv1 hv2 _ _ _ hx.1 hx.2) (fun _ _ h => h) ?_ ?_ ?_; (focus kernel_rfl))
      | (refine AWL.callV (f := 14) rfl rfl rfl rfl ?_ (Nat.le_of_ble_eq_true rfl) rfl (all_look _ hv1 hv2 _) ?_; (focus kernel_rfl))
      | (refine AWL.call (f := 14) rfl rfl rfl ?_ rfl (Nat.le_of_ble_eq_true rfl) rfl (all_look _ hv1 hv2 _) ?_; (focus kernel_rfl))
      | (refine CWr.call (f := 14) rfl ?_ rfl (all_look _ hv1 hv2 _) (fun _ _ h => h) ?_ ?_ ?_; (focus kernel_rfl))
      | (refine AWL.callV (f := 25) rfl rfl rfl rfl ?_ (Nat.le_of_ble_eq_true rfl) rfl (rall_look _ hv1 hv2 _) ?_; (focus kernel_rfl))
      | (refine AWL.call (f := 25) rfl rfl rfl ?_ rfl (Nat.le_of_ble_eq_true rfl) rfl (rall_look _ hv1 hv2 _) ?_; (focus kernel_rfl))
      | (refine CWr.call (f := 25) rfl ?_ rfl (rall_look _ hv1 hv2 _) (fun _ _ h => h) ?_ ?_ ?_; (focus kernel_rfl))
      | (refine AWL.callV (f := 18) rfl rfl rfl rfl ?_ (Nat.le_of_ble_eq_true rfl) rfl (split_ok _ hv1 hv2) ?_; (focus kernel_rfl))
      | (refine AWL.call (f := 18) rfl rfl rfl ?_ rfl (Nat.le_of_ble_eq_true rfl) rfl (split_ok _ hv1 hv2) ?_; (focus kernel_rfl))
      | (refine CWr.call (f := 18) rfl ?_ rfl (split_ok _ hv1 hv2) (fun _ _ h => h) ?_ ?_ ?_; (focus kernel_rfl))
      | (refine AWL.callV (f := 26) rfl rfl rfl rfl ?_ (Nat.le_of_ble_eq_true rfl) rfl (rsplit_ok _ hv1 hv2) ?_; (focus kernel_rfl))
      | (refine AWL.call (f := 26) rfl rfl rfl ?_ rfl (Nat.le_of_ble_eq_true rfl) rfl (rsplit_ok _ hv1 hv2) ?_; (focus kernel_rfl))
      | (refine CWr.call (f := 26) rfl ?_ rfl (rsplit_ok _ hv1 hv2) (fun _ _ h => h) ?_ ?_ ?_; (focus kernel_rfl))
      | (refine AWL.callV (f := 19) rfl rfl rfl rfl ?_ (Nat.le_of_ble_eq_true rfl) rfl (join_ok _ _ hx.1 hy.1) ?_; (focus kernel_rfl))
      | (refine AWL.call (f := 19) rfl rfl rfl ?_ rfl (Nat.le_of_ble_eq_true rfl) rfl (join_ok _ _ hx.1 hy.1) ?_; (focus kernel_rfl))
      | (refine CWr.call (f := 19) rfl ?_ rfl (join_ok _ _ hx.1 hy.1) (fun _ _ h => h) ?_ ?_ ?_; (focus kernel_rfl))
      | (refine AWL.callV (f := 27) rfl rfl rfl rfl ?_ (Nat.le_of_ble_eq_true rfl) rfl (rjoin_ok _ _ hx.1 hx.2 hy.1 hy.2) ?_; (focus kernel_rfl))
      | (refine AWL.call (f := 27) rfl rfl rfl ?_ rfl (Nat.le_of_ble_eq_true rfl) rfl (rjoin_ok _ _ hx.1 hx.2 hy.1 hy.2) ?_; (focus kernel_rfl))
      | (refine CWr.call (f := 27) rfl ?_ rfl (rjoin_ok _ _ hx.1 hx.2 hy.1 hy.2) (fun _ _ h => h) ?_ ?_ ?_; (focus kernel_rfl))
      | (refine AWL.callV (f := 24) rfl rfl rfl rfl ?_ (Nat.le_of_ble_eq_true rfl) rfl (same_at _ _ _ _ ?_ ?_ hal) ?_; (focus kernel_rfl))
      | (refine AWL.call (f := 24) rfl rfl rfl ?_ rfl (Nat.le_of_ble_eq_true rfl) rfl (same_at _ _ _ _ ?_ ?_ hal) ?_; (focus kernel_rfl))
      | (refine CWr.call (f := 24) rfl ?_ rfl (same_at _ _ _ _ ?_ ?_ hal) (fun _ _ h => h) ?_ ?_ ?_; (focus kernel_rfl))
      | fail) <;> (try ((first | show AWL _ _ _ _ _ | show AW _ _ _ _ | show FW _ _ _ _ _ _ _ _ _ _ | show CW _ _ _ _ _ _ _ _ _ _ _ _ | (rintro _ _ ⟨rfl, rfl⟩; (try refine And.intro rfl ?_))); (try (conv => arg -1; simp (disch := omega) only [NSX, Nat.reduceBEq, Nat.reduceAdd, Nat.reduceMul, Int.reduceToNat, Nat.reduceSub, TY, slx, take16, drop16, dz, nums_length, L6])))))
    | ((first | refine AWL.guard2 rfl rfl rfl rfl rfl rfl ?_ ?_ | refine CW.guard2 rfl rfl rfl rfl rfl rfl rfl rfl ?_ ?_) <;> (intro hc; (try simp only [Bool.not_true, Bool.not_false] at hc); first | (cases hc; done) | ((try simp only [hc]); (try simp only [beq_iff_eq, bne_iff_ne, decide_eq_true_eq, decide_eq_false_iff_not, beq_eq_false_iff_ne, bne_eq_false_iff_eq, ne_eq, Bool.not_eq_true, Bool.not_eq_false, Bool.not_eq_eq_eq_not, Bool.not_true, Bool.not_false, Decidable.not_not, Int.not_lt, Int.not_le] at hc); (try (exfalso; omega)); (try (guard_hyp hc : True; clear hc)))))
    | (refine AWL.guard2 rfl rfl rfl rfl rfl rfl (fun hc => ?_) ?_; (cases hc; done))
    | ((first | ((show AW _ (.region _ _ true) _ _); refine AW.calm false [] [] hmix (by (repeat' (first | exact panOk_end | exact panOk_endM | refine panOk_then ?_ | refine panOk_block ?_ | refine QEq.pan (by assumption) ?_))) ?_ rfl ?_; (focus (as_aux_lemma => kernel_rfl))) | refine AWL.guardU rfl rfl rfl rfl rfl rfl ?_ | refine CW.guardU rfl rfl rfl rfl rfl rfl rfl rfl ?_); (try (conv => arg -1; simp (disch := omega) only [NSX, Nat.reduceBEq, Nat.reduceAdd, Nat.reduceMul, Int.reduceToNat, Nat.reduceSub, TY, slx, take16, drop16, dz, nums_length, L6])))
    | refine CW.tail rfl ?_
    | (refine AW.cond rfl (fun hc => ?_) (fun hc => ?_) <;> first | (cases hc; done) | ((try simp only [beq_iff_eq, bne_iff_ne, decide_eq_true_eq, decide_eq_false_iff_not, beq_eq_false_iff_ne, bne_eq_false_iff_eq, ne_eq, Bool.not_eq_true, Bool.not_eq_false, Bool.not_eq_eq_eq_not, Bool.not_true, Bool.not_false, Decidable.not_not, Int.not_lt, Int.not_le] at hc); (try (exfalso; omega)); (try (guard_hyp hc : True; clear hc))))
    | ((refine EndQ.mk rfl rfl rfl ?_ ?_ ?_; (focus (first | exact Or.inl rfl | exact Or.inr rfl))) <;> (try simp (disch := omega) only [NSX, Nat.reduceBEq, Nat.reduceAdd, Nat.reduceMul, Int.reduceToNat, Nat.reduceSub, TY, slx, take16, drop16, dz, nums_length, L6]))
    | (focus ((first | exact trivial | omega | (refine And.intro (by kernel_rfl) (And.intro ⟨_, (by first | exact nums_ints _ _ | rfl), (by first | exact nums_ints _ _ | rfl)⟩ (And.intro ?_ ?_)) <;> (first | rfl | assumption | (simp only [nums_length]; omega) | omega)) | (refine And.intro ?_ (And.intro ?_ ?_); (focus kernel_rfl); (focus kernel_rfl); (focus kernel_rfl)) | ((show newKs _ _ _ = true); kernel_rfl) | ((show FitV _ _ _ _ _ _); (repeat' (first | exact trivial | exact Or.inr (Or.inl rfl) | exact Or.inl rfl | exact Or.inr (Or.inr rfl) | refine And.intro ?_ ?_)); done) | assumption | ((first | refine ld_nums i3 _ _ ?_ | refine ld_nums i29 _ _ ?_ | refine ld_nums i5 _ _ ?_ | refine at_nums i3 _ _ ?_ | refine at_nums i29 _ _ ?_ | refine at_nums i5 _ _ ?_); first | assumption | omega | (simp only [List.length_append]; omega)) | exact hal | (show _ ≤ _; omega) | (simp only [List.length_take, List.length_drop, List.length_append, List.length_cons, List.length_nil]; omega) | ((repeat' (first | exact trivial | exact rfl | exact Nat.le_of_ble_eq_true rfl | refine And.intro ?_ ?_ | fail)); done) | ((try simp (disch := omega) only [NSX, Nat.reduceBEq, Nat.reduceAdd, Nat.reduceMul, Int.reduceToNat, Nat.reduceSub, TY, slx, take16, drop16, dz, nums_length, L6]); (repeat' (first | exact trivial | exact rfl | exact ⟨_, _, rfl⟩ | exact ⟨_, rfl⟩ | exact Nat.le_of_ble_eq_true rfl | exact Nat.zero_lt_succ _ | omega | (simp only [nums_length, toB_len] at *; omega) | refine And.intro ?_ ?_ | fail)); done)); done))
    | fail)
  refine AW.loop [0, 2, 3] [] (fun n st => ∃ (k : Nat), st = L6 l k ∧ k ≤ l.length ∧ n = l.length - k) ?_ ?_
  · exact ⟨_, 0, rfl, Nat.zero_le _, rfl⟩
  · rintro n st ⟨k, rfl, hk, rfl⟩
    have e5 : IntKind.i64.wrap ((k : Int) + 1) = ((k + 1 : Nat) : Int) := wrap64_id _ (by omega) (by omega)
    by_cases hkn : k < l.length
    · have hok := at_mem h hkn
      have hld := at_load h hkn
      have hroom := at_room h hkn
      generalize l.getD k nAt = y at hok hld
      obtain ⟨v, w, i, x⟩ := y
      obtain ⟨hv1, hv2, hx⟩ := hok
      simp only at hv1 hv2 hx
      have hal : (all v w).length ≤ 1000000000000000 := by have := all_len v w; omega
      have hy := xor_bound x
      have hT : List.take 16 (nums .u8 v ++ [V.int .i64 w, V.int .i64 i, V.int .u64 x]) = nums .u8 v := by
        rw [List.take_append_of_le_length (by rw [nums_length]; omega), List.take_of_length_le (by rw [nums_length]; omega)]
      have hG16 : (nums .u8 v ++ [V.int .i64 w, V.int .i64 i, V.int .u64 x]).getD 16 .any = V.int .i64 w := by
        rw [List.getD_eq_getElem?_getD, List.getElem?_append_right (by rw [nums_length]; omega), nums_length, hv1]; rfl
      have hG17 : (nums .u8 v ++ [V.int .i64 w, V.int .i64 i, V.int .u64 x]).getD 17 .any = V.int .i64 i := by
        rw [List.getD_eq_getElem?_getD, List.getElem?_append_right (by rw [nums_length]; omega), nums_length, hv1]; rfl
      have hG18 : (nums .u8 v ++ [V.int .i64 w, V.int .i64 i, V.int .u64 x]).getD 18 .any = V.int .u64 x := by
        rw [List.getD_eq_getElem?_getD, List.getElem?_append_right (by rw [nums_length]; omega), nums_length, hv1]; rfl
      have hL19 : (nums .u8 v ++ [V.int .i64 w, V.int .i64 i, V.int .u64 x]).length = 19 := by simp [nums_length, hv1]
      have hld2 : List.take 19 (List.drop (k * 19) (atC l)) = nums .u8 v ++ [V.int .i64 w, V.int .i64 i, V.int .u64 x] := hld
      have hD : List.drop 19 (nums .u8 v ++ [V.int .i64 w, V.int .i64 i, V.int .u64 x]) = [] := List.drop_of_length_le (by rw [hL19]; exact Nat.le_refl _)
      have hS1 : (set v w i x).length = 16 := (set_ok w i x hv1 hv2).1
      have hchk : True := by simp only [TY, slx, take16, drop16, dz, nums_length, L6, e5, List.take_length, hT, hG16, hG17, hG18, hL19, hld2, hD, hv1, hS1, join_len, bne_self_eq_false, eq_self, decide_true, Bool.not_true]
      repeat' (first
        | (refine AWL.opN (sl := SL) rfl rfl rfl trivial ?_; (try (conv => arg -1; simp (disch := omega) only [NSX, Nat.reduceBEq, Nat.reduceAdd, Nat.reduceMul, Int.reduceToNat, Nat.reduceSub, TY, slx, take16, drop16, dz, nums_length, L6, e5, List.take_length, hT, hG16, hG17, hG18, hL19, hld2, hD, hv1, hS1, join_len, bne_self_eq_false, eq_self, decide_true, Bool.not_true])))
        | (refine AW.seqQ ?_; intro Qn hQn)
        | (refine AW.blockQ ?_; intro Qn hQn)
        | refine AW.region ?_
        | ((first | refine AW.skip ?_ | refine AW.ret ?_ | refine AW.exit ?_ | refine AWL.nil ?_ | refine CW.nil ?_); (repeat (first | refine QEq.mp (by assumption) ?_ | simp only [thenQ, Go.Abs.blockQ, ↓reduceIte, Nat.reduceEqDiff])))
        | refine FW.nil ?_
        | refine FW.pass rfl rfl ?_
        | refine FW.go rfl ?_
        | refine CW.skip rfl rfl ?_
        | refine CW.step rfl rfl rfl rfl rfl ?_
        | ((first
          | (refine AWL.boxF (t := 31) rfl rfl rfl rfl rfl ?_)
          | (refine AWL.allocF (t := 31) rfl rfl rfl rfl rfl rfl ?_)
          | (refine CWr.allocF (t := 31) rfl rfl rfl ?_ ?_)
          | (refine AWL.boxF (t := 25) rfl rfl rfl rfl rfl ?_)
          | (refine AWL.allocF (t := 25) rfl rfl rfl rfl rfl rfl ?_)
          | (refine CWr.allocF (t := 25) rfl rfl rfl ?_ ?_)
          | (refine AWL.op (sl := SL) rfl rfl ?_ ?_)
          | (refine FW.float rfl rfl rfl rfl rfl ?_)
          | (refine CWr.op rfl ?_ ?_ ?_)
          | (refine CWr.assign rfl ?_ ?_)
          | (refine CWr.alloc rfl rfl rfl rfl ?_)
          | (refine CWr.build rfl rfl rfl rfl ?_ rfl rfl rfl ?_)
          | (refine AWL.frzA rfl rfl ?_)
          | (refine AWL.callV (f := 10) rfl rfl rfl rfl ?_ (Nat.le_of_ble_eq_true rfl) rfl (awake_ok) ?_; (focus kernel_rfl))
          | (refine AWL.call (f := 10) rfl rfl rfl ?_ rfl (Nat.le_of_ble_eq_true rfl) rfl (awake_ok) ?_; (focus kernel_rfl))
          | (refine CWr.call (f := 10) rfl ?_ rfl (awake_ok) (fun _ _ h => h) ?_ ?_ ?_; (focus kernel_rfl))
          | (refine AWL.callV (f := 13) rfl rfl rfl rfl ?_ (Nat.le_of_ble_eq_true rfl) rfl (lanes_ok _) ?_; (focus kernel_rfl))
          | (refine AWL.call (f := 13) rfl rfl rfl ?_ rfl (Nat.le_of_ble_eq_true rfl) rfl (lanes_ok _) ?_; (focus kernel_rfl))
          | (refine CWr.call (f := 13) rfl ?_ rfl (lanes_ok _) (fun _ _ h => h) ?_ ?_ ?_; (focus kernel_rfl))
          | (refine AWL.callV (f := 20) rfl rfl rfl rfl ?_ (Nat.le_of_ble_eq_true rfl) rfl (rlanes_ok _) ?_; (focus kernel_rfl))
          | (refine AWL.call (f := 20) rfl rfl rfl ?_ rfl (Nat.le_of_ble_eq_true rfl) rfl (rlanes_ok _) ?_; (focus kernel_rfl))
          | (refine CWr.call (f := 20) rfl ?_ rfl (rlanes_ok _) (fun _ _ h => h) ?_ ?_ ?_; (focus kernel_rfl))
          | (refine AWL.callV (f := 16) rfl rfl rfl rfl ?_ (Nat.le_of_ble_eq_true rfl) rfl (get_ok _ hv1 hv2 _ _) ?_; (focus kernel_rfl))
          | (refine AWL.call (f := 16) rfl rfl rfl ?_ rfl (Nat.le_of_ble_eq_true rfl) rfl (get_ok _ hv1 hv2 _ _) ?_; (focus kernel_rfl))
          | (refine CWr.call (f := 16) rfl ?_ rfl (get_ok _ hv1 hv2 _ _) (fun _ _ h => h) ?_ ?_ ?_; (focus kernel_rfl))
          | (refine AWL.callV (f := 21) rfl rfl rfl rfl ?_ (Nat.le_of_ble_eq_true rfl) rfl (rget_ok _ hv1 hv2 _ _) ?_; (focus kernel_rfl))
          | (refine AWL.call (f := 21) rfl rfl rfl ?_ rfl (Nat.le_of_ble_eq_true rfl) rfl (rget_ok _ hv1 hv2 _ _) ?_; (focus kernel_rfl))
          | (refine CWr.call (f := 21) rfl ?_ rfl (rget_ok _ hv1 hv2 _ _) (fun _ _ h => h) ?_ ?_ ?_; (focus kernel_rfl))
          | (refine AWL.callV (f := 17) rfl rfl rfl rfl ?_ (Nat.le_of_ble_eq_true rfl) rfl (signed_ok _ hv1 hv2 _ _) ?_; (focus kernel_rfl))
          | (refine AWL.call (f := 17) rfl rfl rfl ?_ rfl (Nat.le_of_ble_eq_true rfl) rfl (signed_ok _ hv1 hv2 _ _) ?_; (focus kernel_rfl))
          | (refine CWr.call (f := 17) rfl ?_ rfl (signed_ok _ hv1 hv2 _ _) (fun _ _ h => h) ?_ ?_ ?_; (focus kernel_rfl))
          | (refine AWL.callV (f := 22) rfl rfl rfl rfl ?_ (Nat.le_of_ble_eq_true rfl) rfl (rsigned_ok _ hv1 hv2 _ _) ?_; (focus kernel_rfl))
          | (refine AWL.call (f := 22) rfl rfl rfl ?_ rfl (Nat.le_of_ble_eq_true rfl) rfl (rsigned_ok _ hv1 hv2 _ _) ?_; (focus kernel_rfl))
          | (refine CWr.call (f := 22) rfl ?_ rfl (rsigned_ok _ hv1 hv2 _ _) (fun _ _ h => h) ?_ ?_ ?_; (focus kernel_rfl))
          | (refine AWL.callV (f := 15) rfl rfl rfl rfl ?_ (Nat.le_of_ble_eq_true rfl) rfl (set_walk _ hv1 hv2 _ _ _ hx.1) ?_; (focus kernel_rfl))
          | (refine AWL.call (f := 15) rfl rfl rfl ?_ rfl (Nat.le_of_ble_eq_true rfl) rfl (set_walk _ hv1 hv2 _ _ _ hx.1) ?_; (focus kernel_rfl))
          | (refine CWr.call (f := 15) rfl ?_ rfl (set_walk _ hv1 hv2 _ _ _ hx.1) (fun _ _ h => h) ?_ ?_ ?_; (focus kernel_rfl))
          | (refine AWL.callV (f := 23) rfl rfl rfl rfl ?_ (Nat.le_of_ble_eq_true rfl) rfl (rset_ok _ hv1 hv2 _ _ _ hx.1 hx.2) ?_; (focus kernel_rfl))
          | (refine AWL.call (f := 23) rfl rfl rfl ?_ rfl (Nat.le_of_ble_eq_true rfl) rfl (rset_ok _ hv1 hv2 _ _ _ hx.1 hx.2) ?_; (focus kernel_rfl))
          | (refine CWr.call (f := 23) rfl ?_ rfl (rset_ok _ hv1 hv2 _ _ _ hx.1 hx.2) (fun _ _ h => h) ?_ ?_ ?_; (focus kernel_rfl))
          | (refine AWL.callV (f := 14) rfl rfl rfl rfl ?_ (Nat.le_of_ble_eq_true rfl) rfl (all_look _ hv1 hv2 _) ?_; (focus kernel_rfl))
          | (refine AWL.call (f := 14) rfl rfl rfl ?_ rfl (Nat.le_of_ble_eq_true rfl) rfl (all_look _ hv1 hv2 _) ?_; (focus kernel_rfl))
          | (refine CWr.call (f := 14) rfl ?_ rfl (all_look _ hv1 hv2 _) (fun _ _ h => h) ?_ ?_ ?_; (focus kernel_rfl))
          | (refine AWL.callV (f := 25) rfl rfl rfl rfl ?_ (Nat.le_of_ble_eq_true rfl) rfl (rall_look _ hv1 hv2 _) ?_; (focus kernel_rfl))
          | (refine AWL.call (f := 25) rfl rfl rfl ?_ rfl (Nat.le_of_ble_eq_true rfl) rfl (rall_look _ hv1 hv2 _) ?_; (focus kernel_rfl))
          | (refine CWr.call (f := 25) rfl ?_ rfl (rall_look _ hv1 hv2 _) (fun _ _ h => h) ?_ ?_ ?_; (focus kernel_rfl))
          | (refine AWL.callV (f := 18) rfl rfl rfl rfl ?_ (Nat.le_of_ble_eq_true rfl) rfl (split_ok _ hv1 hv2) ?_; (focus kernel_rfl))
          | (refine AWL.call (f := 18) rfl rfl rfl ?_ rfl (Nat.le_of_ble_eq_true rfl) rfl (split_ok _ hv1 hv2) ?_; (focus kernel_rfl))
          | (refine CWr.call (f := 18) rfl ?_ rfl (split_ok _ hv1 hv2) (fun _ _ h => h) ?_ ?_ ?_; (focus kernel_rfl))
          | (refine AWL.callV (f := 26) rfl rfl rfl rfl ?_ (Nat.le_of_ble_eq_true rfl) rfl (rsplit_ok _ hv1 hv2) ?_; (focus kernel_rfl))
          | (refine AWL.call (f := 26) rfl rfl rfl ?_ rfl (Nat.le_of_ble_eq_true rfl) rfl (rsplit_ok _ hv1 hv2) ?_; (focus kernel_rfl))
          | (refine CWr.call (f := 26) rfl ?_ rfl (rsplit_ok _ hv1 hv2) (fun _ _ h => h) ?_ ?_ ?_; (focus kernel_rfl))
          | (refine AWL.callV (f := 19) rfl rfl rfl rfl ?_ (Nat.le_of_ble_eq_true rfl) rfl (join_ok _ _ hx.1 hy.1) ?_; (focus kernel_rfl))
          | (refine AWL.call (f := 19) rfl rfl rfl ?_ rfl (Nat.le_of_ble_eq_true rfl) rfl (join_ok _ _ hx.1 hy.1) ?_; (focus kernel_rfl))
          | (refine CWr.call (f := 19) rfl ?_ rfl (join_ok _ _ hx.1 hy.1) (fun _ _ h => h) ?_ ?_ ?_; (focus kernel_rfl))
          | (refine AWL.callV (f := 27) rfl rfl rfl rfl ?_ (Nat.le_of_ble_eq_true rfl) rfl (rjoin_ok _ _ hx.1 hx.2 hy.1 hy.2) ?_; (focus kernel_rfl))
          | (refine AWL.call (f := 27) rfl rfl rfl ?_ rfl (Nat.le_of_ble_eq_true rfl) rfl (rjoin_ok _ _ hx.1 hx.2 hy.1 hy.2) ?_; (focus kernel_rfl))
          | (refine CWr.call (f := 27) rfl ?_ rfl (rjoin_ok _ _ hx.1 hx.2 hy.1 hy.2) (fun _ _ h => h) ?_ ?_ ?_; (focus kernel_rfl))
          | (refine AWL.callV (f := 24) rfl rfl rfl rfl ?_ (Nat.le_of_ble_eq_true rfl) rfl (same_at _ _ _ _ ?_ ?_ hal) ?_; (focus kernel_rfl))
          | (refine AWL.call (f := 24) rfl rfl rfl ?_ rfl (Nat.le_of_ble_eq_true rfl) rfl (same_at _ _ _ _ ?_ ?_ hal) ?_; (focus kernel_rfl))
          | (refine CWr.call (f := 24) rfl ?_ rfl (same_at _ _ _ _ ?_ ?_ hal) (fun _ _ h => h) ?_ ?_ ?_; (focus kernel_rfl))
          | fail) <;> (try ((first | show AWL _ _ _ _ _ | show AW _ _ _ _ | show FW _ _ _ _ _ _ _ _ _ _ | show CW _ _ _ _ _ _ _ _ _ _ _ _ | (rintro _ _ ⟨rfl, rfl⟩; (try refine And.intro rfl ?_))); (try (conv => arg -1; simp (disch := omega) only [NSX, Nat.reduceBEq, Nat.reduceAdd, Nat.reduceMul, Int.reduceToNat, Nat.reduceSub, TY, slx, take16, drop16, dz, nums_length, L6, e5, List.take_length, hT, hG16, hG17, hG18, hL19, hld2, hD, hv1, hS1, join_len, bne_self_eq_false, eq_self, decide_true, Bool.not_true])))))
        | ((first | refine AWL.guard2 rfl rfl rfl rfl rfl rfl ?_ ?_ | refine CW.guard2 rfl rfl rfl rfl rfl rfl rfl rfl ?_ ?_) <;> (intro hc; (try simp only [Bool.not_true, Bool.not_false] at hc); first | (cases hc; done) | ((try simp only [hc]); (try simp only [beq_iff_eq, bne_iff_ne, decide_eq_true_eq, decide_eq_false_iff_not, beq_eq_false_iff_ne, bne_eq_false_iff_eq, ne_eq, Bool.not_eq_true, Bool.not_eq_false, Bool.not_eq_eq_eq_not, Bool.not_true, Bool.not_false, Decidable.not_not, Int.not_lt, Int.not_le] at hc); (try (exfalso; omega)); (try (guard_hyp hc : True; clear hc)))))
        | (refine AWL.guard2 rfl rfl rfl rfl rfl rfl (fun hc => ?_) ?_; (cases hc; done))
        | ((first | ((show AW _ (.region _ _ true) _ _); refine AW.calm false [] [] hmix (by (repeat' (first | exact panOk_end | exact panOk_endM | refine panOk_then ?_ | refine panOk_block ?_ | refine QEq.pan (by assumption) ?_))) ?_ rfl ?_; (focus (as_aux_lemma => kernel_rfl))) | refine AWL.guardU rfl rfl rfl rfl rfl rfl ?_ | refine CW.guardU rfl rfl rfl rfl rfl rfl rfl rfl ?_); (try (conv => arg -1; simp (disch := omega) only [NSX, Nat.reduceBEq, Nat.reduceAdd, Nat.reduceMul, Int.reduceToNat, Nat.reduceSub, TY, slx, take16, drop16, dz, nums_length, L6, e5, List.take_length, hT, hG16, hG17, hG18, hL19, hld2, hD, hv1, hS1, join_len, bne_self_eq_false, eq_self, decide_true, Bool.not_true])))
        | refine CW.tail rfl ?_
        | (refine AW.cond rfl (fun hc => ?_) (fun hc => ?_) <;> first | (cases hc; done) | ((try simp only [beq_iff_eq, bne_iff_ne, decide_eq_true_eq, decide_eq_false_iff_not, beq_eq_false_iff_ne, bne_eq_false_iff_eq, ne_eq, Bool.not_eq_true, Bool.not_eq_false, Bool.not_eq_eq_eq_not, Bool.not_true, Bool.not_false, Decidable.not_not, Int.not_lt, Int.not_le] at hc); (try (exfalso; omega)); (try (guard_hyp hc : True; clear hc))))
        | ((refine EndQ.mk rfl rfl rfl ?_ ?_ ?_; (focus (first | exact Or.inl rfl | exact Or.inr rfl))) <;> (try simp (disch := omega) only [NSX, Nat.reduceBEq, Nat.reduceAdd, Nat.reduceMul, Int.reduceToNat, Nat.reduceSub, TY, slx, take16, drop16, dz, nums_length, L6, e5, List.take_length, hT, hG16, hG17, hG18, hL19, hld2, hD, hv1, hS1, join_len, bne_self_eq_false, eq_self, decide_true, Bool.not_true]))
        | (focus ((first | exact trivial | omega | (refine And.intro (by kernel_rfl) (And.intro ⟨_, (by first | exact nums_ints _ _ | rfl), (by first | exact nums_ints _ _ | rfl)⟩ (And.intro ?_ ?_)) <;> (first | rfl | assumption | (simp only [nums_length]; omega) | omega)) | (refine And.intro ?_ (And.intro ?_ ?_); (focus kernel_rfl); (focus kernel_rfl); (focus kernel_rfl)) | ((show newKs _ _ _ = true); kernel_rfl) | ((show FitV _ _ _ _ _ _); (repeat' (first | exact trivial | exact Or.inr (Or.inl rfl) | exact Or.inl rfl | exact Or.inr (Or.inr rfl) | refine And.intro ?_ ?_)); done) | assumption | ((first | refine ld_nums i3 _ _ ?_ | refine ld_nums i29 _ _ ?_ | refine ld_nums i5 _ _ ?_ | refine at_nums i3 _ _ ?_ | refine at_nums i29 _ _ ?_ | refine at_nums i5 _ _ ?_); first | assumption | omega | (simp only [List.length_append]; omega)) | exact hal | (show _ ≤ _; omega) | (simp only [List.length_take, List.length_drop, List.length_append, List.length_cons, List.length_nil]; omega) | ((repeat' (first | exact trivial | exact rfl | exact Nat.le_of_ble_eq_true rfl | refine And.intro ?_ ?_ | fail)); done) | ((try simp (disch := omega) only [NSX, Nat.reduceBEq, Nat.reduceAdd, Nat.reduceMul, Int.reduceToNat, Nat.reduceSub, TY, slx, take16, drop16, dz, nums_length, L6, e5, List.take_length, hT, hG16, hG17, hG18, hL19, hld2, hD, hv1, hS1, join_len, bne_self_eq_false, eq_self, decide_true, Bool.not_true]); (repeat' (first | exact trivial | exact rfl | exact ⟨_, _, rfl⟩ | exact ⟨_, rfl⟩ | exact Nat.le_of_ble_eq_true rfl | exact Nat.zero_lt_succ _ | omega | (simp only [nums_length, toB_len] at *; omega) | refine And.intro ?_ ?_ | fail)); done)); done))
        | fail)
      all_goals try simp (disch := omega) only [NSX, Nat.reduceBEq, Nat.reduceAdd, Nat.reduceMul, Int.reduceToNat, Nat.reduceSub, TY, slx, take16, drop16, dz, nums_length, L6, e5]
      all_goals first
        | exact ⟨l.length - (k + 1), by omega, k + 1, rfl, by omega, rfl⟩
        | (exfalso; omega) | trace_state
    · have hchk : True := by simp only [TY, slx, take16, drop16, dz, nums_length, L6]
      repeat' (first
        | (refine AWL.opN (sl := SL) rfl rfl rfl trivial ?_; (try (conv => arg -1; simp (disch := omega) only [NSX, Nat.reduceBEq, Nat.reduceAdd, Nat.reduceMul, Int.reduceToNat, Nat.reduceSub, TY, slx, take16, drop16, dz, nums_length, L6])))
        | (refine AW.seqQ ?_; intro Qn hQn)
        | (refine AW.blockQ ?_; intro Qn hQn)
        | refine AW.region ?_
        | ((first | refine AW.skip ?_ | refine AW.ret ?_ | refine AW.exit ?_ | refine AWL.nil ?_ | refine CW.nil ?_); (repeat (first | refine QEq.mp (by assumption) ?_ | simp only [thenQ, Go.Abs.blockQ, ↓reduceIte, Nat.reduceEqDiff])))
        | refine FW.nil ?_
        | refine FW.pass rfl rfl ?_
        | refine FW.go rfl ?_
        | refine CW.skip rfl rfl ?_
        | refine CW.step rfl rfl rfl rfl rfl ?_
        | ((first
          | (refine AWL.boxF (t := 31) rfl rfl rfl rfl rfl ?_)
          | (refine AWL.allocF (t := 31) rfl rfl rfl rfl rfl rfl ?_)
          | (refine CWr.allocF (t := 31) rfl rfl rfl ?_ ?_)
          | (refine AWL.boxF (t := 25) rfl rfl rfl rfl rfl ?_)
          | (refine AWL.allocF (t := 25) rfl rfl rfl rfl rfl rfl ?_)
          | (refine CWr.allocF (t := 25) rfl rfl rfl ?_ ?_)
          | (refine AWL.op (sl := SL) rfl rfl ?_ ?_)
          | (refine FW.float rfl rfl rfl rfl rfl ?_)
          | (refine CWr.op rfl ?_ ?_ ?_)
          | (refine CWr.assign rfl ?_ ?_)
          | (refine CWr.alloc rfl rfl rfl rfl ?_)
          | (refine CWr.build rfl rfl rfl rfl ?_ rfl rfl rfl ?_)
          | (refine AWL.frzA rfl rfl ?_)
          | (refine AWL.callV (f := 10) rfl rfl rfl rfl ?_ (Nat.le_of_ble_eq_true rfl) rfl (awake_ok) ?_; (focus kernel_rfl))
          | (refine AWL.call (f := 10) rfl rfl rfl ?_ rfl (Nat.le_of_ble_eq_true rfl) rfl (awake_ok) ?_; (focus kernel_rfl))
          | (refine CWr.call (f := 10) rfl ?_ rfl (awake_ok) (fun _ _ h => h) ?_ ?_ ?_; (focus kernel_rfl))
          | (refine AWL.callV (f := 13) rfl rfl rfl rfl ?_ (Nat.le_of_ble_eq_true rfl) rfl (lanes_ok _) ?_; (focus kernel_rfl))
          | (refine AWL.call (f := 13) rfl rfl rfl ?_ rfl (Nat.le_of_ble_eq_true rfl) rfl (lanes_ok _) ?_; (focus kernel_rfl))
          | (refine CWr.call (f := 13) rfl ?_ rfl (lanes_ok _) (fun _ _ h => h) ?_ ?_ ?_; (focus kernel_rfl))
          | (refine AWL.callV (f := 20) rfl rfl rfl rfl ?_ (Nat.le_of_ble_eq_true rfl) rfl (rlanes_ok _) ?_; (focus kernel_rfl))
          | (refine AWL.call (f := 20) rfl rfl rfl ?_ rfl (Nat.le_of_ble_eq_true rfl) rfl (rlanes_ok _) ?_; (focus kernel_rfl))
          | (refine CWr.call (f := 20) rfl ?_ rfl (rlanes_ok _) (fun _ _ h => h) ?_ ?_ ?_; (focus kernel_rfl))
          | (refine AWL.callV (f := 16) rfl rfl rfl rfl ?_ (Nat.le_of_ble_eq_true rfl) rfl (get_ok _ hv1 hv2 _ _) ?_; (focus kernel_rfl))
          | (refine AWL.call (f := 16) rfl rfl rfl ?_ rfl (Nat.le_of_ble_eq_true rfl) rfl (get_ok _ hv1 hv2 _ _) ?_; (focus kernel_rfl))
          | (refine CWr.call (f := 16) rfl ?_ rfl (get_ok _ hv1 hv2 _ _) (fun _ _ h => h) ?_ ?_ ?_; (focus kernel_rfl))
          | (refine AWL.callV (f := 21) rfl rfl rfl rfl ?_ (Nat.le_of_ble_eq_true rfl) rfl (rget_ok _ hv1 hv2 _ _) ?_; (focus kernel_rfl))
          | (refine AWL.call (f := 21) rfl rfl rfl ?_ rfl (Nat.le_of_ble_eq_true rfl) rfl (rget_ok _ hv1 hv2 _ _) ?_; (focus kernel_rfl))
          | (refine CWr.call (f := 21) rfl ?_ rfl (rget_ok _ hv1 hv2 _ _) (fun _ _ h => h) ?_ ?_ ?_; (focus kernel_rfl))
          | (refine AWL.callV (f := 17) rfl rfl rfl rfl ?_ (Nat.le_of_ble_eq_true rfl) rfl (signed_ok _ hv1 hv2 _ _) ?_; (focus kernel_rfl))
          | (refine AWL.call (f := 17) rfl rfl rfl ?_ rfl (Nat.le_of_ble_eq_true rfl) rfl (signed_ok _ hv1 hv2 _ _) ?_; (focus kernel_rfl))
          | (refine CWr.call (f := 17) rfl ?_ rfl (signed_ok _ hv1 hv2 _ _) (fun _ _ h => h) ?_ ?_ ?_; (focus kernel_rfl))
          | (refine AWL.callV (f := 22) rfl rfl rfl rfl ?_ (Nat.le_of_ble_eq_true rfl) rfl (rsigned_ok _ hv1 hv2 _ _) ?_; (focus kernel_rfl))
          | (refine AWL.call (f := 22) rfl rfl rfl ?_ rfl (Nat.le_of_ble_eq_true rfl) rfl (rsigned_ok _ hv1 hv2 _ _) ?_; (focus kernel_rfl))
          | (refine CWr.call (f := 22) rfl ?_ rfl (rsigned_ok _ hv1 hv2 _ _) (fun _ _ h => h) ?_ ?_ ?_; (focus kernel_rfl))
          | (refine AWL.callV (f := 15) rfl rfl rfl rfl ?_ (Nat.le_of_ble_eq_true rfl) rfl (set_walk _ hv1 hv2 _ _ _ hx.1) ?_; (focus kernel_rfl))
          | (refine AWL.call (f := 15) rfl rfl rfl ?_ rfl (Nat.le_of_ble_eq_true rfl) rfl (set_walk _ hv1 hv2 _ _ _ hx.1) ?_; (focus kernel_rfl))
          | (refine CWr.call (f := 15) rfl ?_ rfl (set_walk _ hv1 hv2 _ _ _ hx.1) (fun _ _ h => h) ?_ ?_ ?_; (focus kernel_rfl))
          | (refine AWL.callV (f := 23) rfl rfl rfl rfl ?_ (Nat.le_of_ble_eq_true rfl) rfl (rset_ok _ hv1 hv2 _ _ _ hx.1 hx.2) ?_; (focus kernel_rfl))
          | (refine AWL.call (f := 23) rfl rfl rfl ?_ rfl (Nat.le_of_ble_eq_true rfl) rfl (rset_ok _ hv1 hv2 _ _ _ hx.1 hx.2) ?_; (focus kernel_rfl))
          | (refine CWr.call (f := 23) rfl ?_ rfl (rset_ok _ hv1 hv2 _ _ _ hx.1 hx.2) (fun _ _ h => h) ?_ ?_ ?_; (focus kernel_rfl))
          | (refine AWL.callV (f := 14) rfl rfl rfl rfl ?_ (Nat.le_of_ble_eq_true rfl) rfl (all_look _ hv1 hv2 _) ?_; (focus kernel_rfl))
          | (refine AWL.call (f := 14) rfl rfl rfl ?_ rfl (Nat.le_of_ble_eq_true rfl) rfl (all_look _ hv1 hv2 _) ?_; (focus kernel_rfl))
          | (refine CWr.call (f := 14) rfl ?_ rfl (all_look _ hv1 hv2 _) (fun _ _ h => h) ?_ ?_ ?_; (focus kernel_rfl))
          | (refine AWL.callV (f := 25) rfl rfl rfl rfl ?_ (Nat.le_of_ble_eq_true rfl) rfl (rall_look _ hv1 hv2 _) ?_; (focus kernel_rfl))
          | (refine AWL.call (f := 25) rfl rfl rfl ?_ rfl (Nat.le_of_ble_eq_true rfl) rfl (rall_look _ hv1 hv2 _) ?_; (focus kernel_rfl))
          | (refine CWr.call (f := 25) rfl ?_ rfl (rall_look _ hv1 hv2 _) (fun _ _ h => h) ?_ ?_ ?_; (focus kernel_rfl))
          | (refine AWL.callV (f := 18) rfl rfl rfl rfl ?_ (Nat.le_of_ble_eq_true rfl) rfl (split_ok _ hv1 hv2) ?_; (focus kernel_rfl))
          | (refine AWL.call (f := 18) rfl rfl rfl ?_ rfl (Nat.le_of_ble_eq_true rfl) rfl (split_ok _ hv1 hv2) ?_; (focus kernel_rfl))
          | (refine CWr.call (f := 18) rfl ?_ rfl (split_ok _ hv1 hv2) (fun _ _ h => h) ?_ ?_ ?_; (focus kernel_rfl))
          | (refine AWL.callV (f := 26) rfl rfl rfl rfl ?_ (Nat.le_of_ble_eq_true rfl) rfl (rsplit_ok _ hv1 hv2) ?_; (focus kernel_rfl))
          | (refine AWL.call (f := 26) rfl rfl rfl ?_ rfl (Nat.le_of_ble_eq_true rfl) rfl (rsplit_ok _ hv1 hv2) ?_; (focus kernel_rfl))
          | (refine CWr.call (f := 26) rfl ?_ rfl (rsplit_ok _ hv1 hv2) (fun _ _ h => h) ?_ ?_ ?_; (focus kernel_rfl))
          | (refine AWL.callV (f := 19) rfl rfl rfl rfl ?_ (Nat.le_of_ble_eq_true rfl) rfl (join_ok _ _ hx.1 hy.1) ?_; (focus kernel_rfl))
          | (refine AWL.call (f := 19) rfl rfl rfl ?_ rfl (Nat.le_of_ble_eq_true rfl) rfl (join_ok _ _ hx.1 hy.1) ?_; (focus kernel_rfl))
          | (refine CWr.call (f := 19) rfl ?_ rfl (join_ok _ _ hx.1 hy.1) (fun _ _ h => h) ?_ ?_ ?_; (focus kernel_rfl))
          | (refine AWL.callV (f := 27) rfl rfl rfl rfl ?_ (Nat.le_of_ble_eq_true rfl) rfl (rjoin_ok _ _ hx.1 hx.2 hy.1 hy.2) ?_; (focus kernel_rfl))
          | (refine AWL.call (f := 27) rfl rfl rfl ?_ rfl (Nat.le_of_ble_eq_true rfl) rfl (rjoin_ok _ _ hx.1 hx.2 hy.1 hy.2) ?_; (focus kernel_rfl))
          | (refine CWr.call (f := 27) rfl ?_ rfl (rjoin_ok _ _ hx.1 hx.2 hy.1 hy.2) (fun _ _ h => h) ?_ ?_ ?_; (focus kernel_rfl))
          | (refine AWL.callV (f := 24) rfl rfl rfl rfl ?_ (Nat.le_of_ble_eq_true rfl) rfl (same_at _ _ _ _ ?_ ?_ hal) ?_; (focus kernel_rfl))
          | (refine AWL.call (f := 24) rfl rfl rfl ?_ rfl (Nat.le_of_ble_eq_true rfl) rfl (same_at _ _ _ _ ?_ ?_ hal) ?_; (focus kernel_rfl))
          | (refine CWr.call (f := 24) rfl ?_ rfl (same_at _ _ _ _ ?_ ?_ hal) (fun _ _ h => h) ?_ ?_ ?_; (focus kernel_rfl))
          | fail) <;> (try ((first | show AWL _ _ _ _ _ | show AW _ _ _ _ | show FW _ _ _ _ _ _ _ _ _ _ | show CW _ _ _ _ _ _ _ _ _ _ _ _ | (rintro _ _ ⟨rfl, rfl⟩; (try refine And.intro rfl ?_))); (try (conv => arg -1; simp (disch := omega) only [NSX, Nat.reduceBEq, Nat.reduceAdd, Nat.reduceMul, Int.reduceToNat, Nat.reduceSub, TY, slx, take16, drop16, dz, nums_length, L6])))))
        | ((first | refine AWL.guard2 rfl rfl rfl rfl rfl rfl ?_ ?_ | refine CW.guard2 rfl rfl rfl rfl rfl rfl rfl rfl ?_ ?_) <;> (intro hc; (try simp only [Bool.not_true, Bool.not_false] at hc); first | (cases hc; done) | ((try simp only [hc]); (try simp only [beq_iff_eq, bne_iff_ne, decide_eq_true_eq, decide_eq_false_iff_not, beq_eq_false_iff_ne, bne_eq_false_iff_eq, ne_eq, Bool.not_eq_true, Bool.not_eq_false, Bool.not_eq_eq_eq_not, Bool.not_true, Bool.not_false, Decidable.not_not, Int.not_lt, Int.not_le] at hc); (try (exfalso; omega)); (try (guard_hyp hc : True; clear hc)))))
        | (refine AWL.guard2 rfl rfl rfl rfl rfl rfl (fun hc => ?_) ?_; (cases hc; done))
        | ((first | ((show AW _ (.region _ _ true) _ _); refine AW.calm false [] [] hmix (by (repeat' (first | exact panOk_end | exact panOk_endM | refine panOk_then ?_ | refine panOk_block ?_ | refine QEq.pan (by assumption) ?_))) ?_ rfl ?_; (focus (as_aux_lemma => kernel_rfl))) | refine AWL.guardU rfl rfl rfl rfl rfl rfl ?_ | refine CW.guardU rfl rfl rfl rfl rfl rfl rfl rfl ?_); (try (conv => arg -1; simp (disch := omega) only [NSX, Nat.reduceBEq, Nat.reduceAdd, Nat.reduceMul, Int.reduceToNat, Nat.reduceSub, TY, slx, take16, drop16, dz, nums_length, L6])))
        | refine CW.tail rfl ?_
        | (refine AW.cond rfl (fun hc => ?_) (fun hc => ?_) <;> first | (cases hc; done) | ((try simp only [beq_iff_eq, bne_iff_ne, decide_eq_true_eq, decide_eq_false_iff_not, beq_eq_false_iff_ne, bne_eq_false_iff_eq, ne_eq, Bool.not_eq_true, Bool.not_eq_false, Bool.not_eq_eq_eq_not, Bool.not_true, Bool.not_false, Decidable.not_not, Int.not_lt, Int.not_le] at hc); (try (exfalso; omega)); (try (guard_hyp hc : True; clear hc))))
        | ((refine EndQ.mk rfl rfl rfl ?_ ?_ ?_; (focus (first | exact Or.inl rfl | exact Or.inr rfl))) <;> (try simp (disch := omega) only [NSX, Nat.reduceBEq, Nat.reduceAdd, Nat.reduceMul, Int.reduceToNat, Nat.reduceSub, TY, slx, take16, drop16, dz, nums_length, L6]))
        | (focus ((first | exact trivial | omega | (refine And.intro (by kernel_rfl) (And.intro ⟨_, (by first | exact nums_ints _ _ | rfl), (by first | exact nums_ints _ _ | rfl)⟩ (And.intro ?_ ?_)) <;> (first | rfl | assumption | (simp only [nums_length]; omega) | omega)) | (refine And.intro ?_ (And.intro ?_ ?_); (focus kernel_rfl); (focus kernel_rfl); (focus kernel_rfl)) | ((show newKs _ _ _ = true); kernel_rfl) | ((show FitV _ _ _ _ _ _); (repeat' (first | exact trivial | exact Or.inr (Or.inl rfl) | exact Or.inl rfl | exact Or.inr (Or.inr rfl) | refine And.intro ?_ ?_)); done) | assumption | ((first | refine ld_nums i3 _ _ ?_ | refine ld_nums i29 _ _ ?_ | refine ld_nums i5 _ _ ?_ | refine at_nums i3 _ _ ?_ | refine at_nums i29 _ _ ?_ | refine at_nums i5 _ _ ?_); first | assumption | omega | (simp only [List.length_append]; omega)) | exact hal | (show _ ≤ _; omega) | (simp only [List.length_take, List.length_drop, List.length_append, List.length_cons, List.length_nil]; omega) | ((repeat' (first | exact trivial | exact rfl | exact Nat.le_of_ble_eq_true rfl | refine And.intro ?_ ?_ | fail)); done) | ((try simp (disch := omega) only [NSX, Nat.reduceBEq, Nat.reduceAdd, Nat.reduceMul, Int.reduceToNat, Nat.reduceSub, TY, slx, take16, drop16, dz, nums_length, L6]); (repeat' (first | exact trivial | exact rfl | exact ⟨_, _, rfl⟩ | exact ⟨_, rfl⟩ | exact Nat.le_of_ble_eq_true rfl | exact Nat.zero_lt_succ _ | omega | (simp only [nums_length, toB_len] at *; omega) | refine And.intro ?_ ?_ | fail)); done)); done))
        | fail)
      all_goals first | exact ⟨trivial, trivial⟩ | exact ⟨rfl, trivial⟩ | exact ⟨rfl, rfl⟩ | exact ⟨trivial, rfl⟩ | (exfalso; omega) | trace_state
end Go.Proofs.Ytopdealfmajbhaa
