/- SplitJoins. -/
import Derived.Test.YtbdmieljkgcpcaaV4
import Derived.Test.YtbdmieljkgcpcaaAwake
namespace Go.Proofs.Ytbdmieljkgcpcaa
set_option linter.unusedSimpArgs false
set_option linter.unusedVariables false
open Go Go.Abs
attribute [local irreducible] AW AWL AC DQ IntKind.wrap

theorem image_mem (l : List Int) : ∀ t ∈ image l, t = 127 ∨ t = 126 := by
  induction l with
  | nil => intro t h; cases h
  | cons x l ih =>
    intro t h
    simp only [image, List.mem_append] at h
    rcases h with h | h
    · split at h
      · simp at h; exact .inr h
      · split at h
        · rename_i h2; simp at h; subst h; exact h2
        · cases h
    · exact ih t h
theorem getD_mem {l : List Int} {k : Nat} (h : k < l.length) : l.getD k 0 ∈ l := by
  rw [List.getD_eq_getElem?_getD, List.getElem?_eq_getElem h]; exact List.getElem_mem h
theorem offs_join (xs ys : List Int) (n k : Nat) (hn : xs.length + k < n) (k2 : Nat) (hk : k < k2) : (offsTo (xs ++ ys) n).getD (xs.length + k) 0 = (image xs).length + (offsTo ys k2).getD k 0 := by
  simp only [offsTo, List.getD_eq_getElem?_getD, List.getElem?_map]
  rw [List.getElem?_range hn, List.getElem?_range hk]
  simp only [Option.map_some, Option.getD_some]
  rw [List.take_length_add_append, image_append, List.length_append]; simp
theorem offs_bd (ys : List Int) (n k : Nat) : 0 ≤ (offsTo ys n).getD k 0 ∧ (offsTo ys n).getD k 0 ≤ 2 * ys.length := by
  simp only [offsTo, List.getD_eq_getElem?_getD, List.getElem?_map]
  cases h : (List.range n)[k]? with
  | none => simp; omega
  | some i =>
    have := image_len (ys.take i)
    rw [List.length_take] at this
    simp only [Option.map_some, Option.getD_some]; omega
theorem tn_add (a b : Nat) : ((a : Int) + (b : Int)).toNat - a = b := by omega
def SJ1 (xs ys : List Int) (i : Int) : St :=
  { n := 101, slots := [(0, .view xs.length 1 (nums .i64 xs)), (1, .view ys.length 1 (nums .i64 ys)), (5, .view (xs.length + ys.length) 1 (nums .i64 (xs ++ ys))), (8, .view ((image xs).length + (image ys).length) 1 (nums .i64 (image xs ++ image ys))), (9, .int .i64 i)], mem := [] }
def SJ2 (xs ys : List Int) (i : Int) : St :=
  { n := 101, slots := [(0, .view xs.length 1 (nums .i64 xs)), (1, .view ys.length 1 (nums .i64 ys)), (5, .view (xs.length + ys.length) 1 (nums .i64 (xs ++ ys))), (10, .view (xs.length + ys.length) 1 (nums .i64 (offsTo (xs ++ ys) (xs.length + ys.length)))), (11, .view ys.length 1 (nums .i64 (offsTo ys ys.length))), (12, .int .i64 i)], mem := [] }
set_option maxRecDepth 4000 in
set_option maxHeartbeats 1000000 in
theorem splitJoins_ok (xs ys : List Int) (hx : xs.length + ys.length ≤ 1048576) :
    AC Try.prog 5 [.view xs.length 1 (nums .i64 xs), .view ys.length 1 (nums .i64 ys)] (fun r m => r = .bool true ∧ m = []) := by
  have hix := image_len xs
  have hiy := image_len ys
  refine AC.enter Try.func5 rfl (Nat.le_of_ble_eq_true rfl) ?_
  simp only [Try.f5]
  repeat' (first
    | refine AW.seq ?_
    | refine AW.block ?_
    | refine AW.region ?_
    | (refine AW.skip ?_; (try simp only [thenQ, blockQ, ↓reduceIte, Nat.reduceEqDiff]))
    | (refine AW.ret ?_; (try simp only [thenQ, blockQ, ↓reduceIte, Nat.reduceEqDiff]))
    | (refine AW.exit ?_; (try simp only [thenQ, blockQ, ↓reduceIte, Nat.reduceEqDiff]))
    | (refine AWL.nil ?_; (try simp only [thenQ, blockQ, ↓reduceIte, Nat.reduceEqDiff]))
    | (refine DQ.nil ?_; (try simp only [thenQ, blockQ, ↓reduceIte, Nat.reduceEqDiff]))
    | ((first
      | (refine AWL.op (sl := SL) rfl rfl ?_ ?_)
      | (refine DQ.op rfl rfl rfl rfl rfl ?_ ?_)
      | (refine DQ.yes rfl ?_ ?_)
      | (refine DQ.step rfl rfl rfl rfl (QStep.assign rfl) ?_)
      | (refine AWL.frzA rfl rfl ?_)
      | (refine AWL.callV (f := 9) rfl rfl rfl rfl ?_ (Nat.le_of_ble_eq_true rfl) rfl (awake_ok) ?_; (focus kernel_rfl))
      | (refine AWL.call (f := 9) rfl rfl rfl ?_ rfl (Nat.le_of_ble_eq_true rfl) rfl (awake_ok) ?_; (focus kernel_rfl))
      | (refine DQ.step rfl rfl rfl rfl (QStep.call (f := 9) rfl ?_ rfl (awake_ok) (fun _ _ h => h) (fun _ => rfl)) ?_; (focus kernel_rfl))
      | (refine DQ.yesC (QStep.call (f := 9) rfl ?_ rfl (awake_ok) (fun _ _ h => h) (fun _ => rfl)) ?_; (focus kernel_rfl))
      | (refine AWL.callV (f := 12) rfl rfl rfl rfl ?_ (Nat.le_of_ble_eq_true rfl) rfl (width_at _ _ ?_ ?_) ?_; (focus kernel_rfl))
      | (refine AWL.call (f := 12) rfl rfl rfl ?_ rfl (Nat.le_of_ble_eq_true rfl) rfl (width_at _ _ ?_ ?_) ?_; (focus kernel_rfl))
      | (refine DQ.step rfl rfl rfl rfl (QStep.call (f := 12) rfl ?_ rfl (width_at _ _ ?_ ?_) (fun _ _ h => h) (fun _ => rfl)) ?_; (focus kernel_rfl))
      | (refine DQ.yesC (QStep.call (f := 12) rfl ?_ rfl (width_at _ _ ?_ ?_) (fun _ _ h => h) (fun _ => rfl)) ?_; (focus kernel_rfl))
      | (refine AWL.callV (f := 15) rfl rfl rfl rfl ?_ (Nat.le_of_ble_eq_true rfl) rfl (types_look _ _ ?_ ?_) ?_; (focus kernel_rfl))
      | (refine AWL.call (f := 15) rfl rfl rfl ?_ rfl (Nat.le_of_ble_eq_true rfl) rfl (types_look _ _ ?_ ?_) ?_; (focus kernel_rfl))
      | (refine DQ.step rfl rfl rfl rfl (QStep.call (f := 15) rfl ?_ rfl (types_look _ _ ?_ ?_) (fun _ _ h => h) (fun _ => rfl)) ?_; (focus kernel_rfl))
      | (refine DQ.yesC (QStep.call (f := 15) rfl ?_ rfl (types_look _ _ ?_ ?_) (fun _ _ h => h) (fun _ => rfl)) ?_; (focus kernel_rfl))
      | (refine AWL.callV (f := 14) rfl rfl rfl rfl ?_ (Nat.le_of_ble_eq_true rfl) rfl (same_at _ _ _ _ ?_ ?_ ?_) ?_; (focus kernel_rfl))
      | (refine AWL.call (f := 14) rfl rfl rfl ?_ rfl (Nat.le_of_ble_eq_true rfl) rfl (same_at _ _ _ _ ?_ ?_ ?_) ?_; (focus kernel_rfl))
      | (refine DQ.step rfl rfl rfl rfl (QStep.call (f := 14) rfl ?_ rfl (same_at _ _ _ _ ?_ ?_ ?_) (fun _ _ h => h) (fun _ => rfl)) ?_; (focus kernel_rfl))
      | (refine DQ.yesC (QStep.call (f := 14) rfl ?_ rfl (same_at _ _ _ _ ?_ ?_ ?_) (fun _ _ h => h) (fun _ => rfl)) ?_; (focus kernel_rfl))
      | (refine AWL.callV (f := 16) rfl rfl rfl rfl ?_ (Nat.le_of_ble_eq_true rfl) rfl (off_look _ _ ?_ ?_) ?_; (focus kernel_rfl))
      | (refine AWL.call (f := 16) rfl rfl rfl ?_ rfl (Nat.le_of_ble_eq_true rfl) rfl (off_look _ _ ?_ ?_) ?_; (focus kernel_rfl))
      | (refine DQ.step rfl rfl rfl rfl (QStep.call (f := 16) rfl ?_ rfl (off_look _ _ ?_ ?_) (fun _ _ h => h) (fun _ => rfl)) ?_; (focus kernel_rfl))
      | (refine DQ.yesC (QStep.call (f := 16) rfl ?_ rfl (off_look _ _ ?_ ?_) (fun _ _ h => h) (fun _ => rfl)) ?_; (focus kernel_rfl))
      | fail) <;> (first | ((first | show AWL _ _ _ _ _ | show DQ _ _ _ _ _ _ | show AW _ _ _ _ | (rintro _ _ ⟨rfl, rfl⟩; (try refine And.intro rfl ?_))); (try simp (disch := omega) only [NS, Nat.reduceBEq, Nat.reduceAdd, Nat.reduceMul, TY, slx, SJ1, SJ2, tn_add, image_append, List.length_append, List.take_left, List.drop_left, Int.natCast_add, wrap64_id, bne_self_eq_false, eq_self, decide_true, Bool.not_true])) | (focus ((first | exact trivial | omega | exact ld_nums i3 _ _ (by first | assumption | omega | (simp only [List.length_append, offsTo_len]; omega)) | (exact (offsTo_len _ _).symm) | (rw [offsTo_len]; omega) | (simp only [List.length_append]; omega) | (show _ ≤ _; omega) | (simp only [List.length_take, List.length_drop, List.length_append, List.length_cons, List.length_nil]; omega) | ((repeat' (first | exact trivial | exact rfl | exact Nat.le_of_ble_eq_true rfl | refine And.intro ?_ ?_ | fail)); done) | ((try simp (disch := omega) only [NS, Nat.reduceBEq, Nat.reduceAdd, Nat.reduceMul, TY, slx, SJ1, SJ2, tn_add, image_append, List.length_append, List.take_left, List.drop_left, Int.natCast_add, wrap64_id, bne_self_eq_false, eq_self, decide_true, Bool.not_true]); (repeat' (first | exact trivial | exact rfl | exact ⟨_, _, rfl⟩ | exact ⟨_, rfl⟩ | exact Nat.le_of_ble_eq_true rfl | exact Nat.zero_lt_succ _ | omega | refine And.intro ?_ ?_ | fail)); done)); done))))
    | (refine AWL.guard2 rfl rfl rfl rfl rfl rfl ?_ ?_ <;> (intro hc; (try simp only [Bool.not_true, Bool.not_false] at hc); first | (cases hc; done) | ((try simp only [hc]); (try simp only [beq_iff_eq, bne_iff_ne, decide_eq_true_eq, decide_eq_false_iff_not, beq_eq_false_iff_ne, bne_eq_false_iff_eq, ne_eq, Bool.not_eq_true, Bool.not_eq_false, Bool.not_eq_eq_eq_not, Bool.not_true, Bool.not_false, Decidable.not_not, Int.not_lt, Int.not_le] at hc); (try (exfalso; omega)))))
    | (refine AWL.guard2 rfl rfl rfl rfl rfl rfl (fun hc => ?_) ?_; (cases hc; done))
    | (refine AW.drawn false hmix ?_ ?_; (focus kernel_rfl))
    | refine DQ.tail rfl ?_
    | (refine DQ.guard2 rfl rfl rfl rfl rfl rfl rfl ?_ ?_ <;> (intro hc; (try simp only [Bool.not_true, Bool.not_false] at hc); first | (cases hc; done) | ((try simp only [hc]); (try simp only [beq_iff_eq, bne_iff_ne, decide_eq_true_eq, decide_eq_false_iff_not, beq_eq_false_iff_ne, bne_eq_false_iff_eq, ne_eq, Bool.not_eq_true, Bool.not_eq_false, Bool.not_eq_eq_eq_not, Bool.not_true, Bool.not_false, Decidable.not_not, Int.not_lt, Int.not_le] at hc); (try (exfalso; omega)))))
    | (refine AW.cond rfl (fun hc => ?_) (fun hc => ?_) <;> first | (cases hc; done) | ((try simp only [beq_iff_eq, bne_iff_ne, decide_eq_true_eq, decide_eq_false_iff_not, beq_eq_false_iff_ne, bne_eq_false_iff_eq, ne_eq, Bool.not_eq_true, Bool.not_eq_false, Bool.not_eq_eq_eq_not, Bool.not_true, Bool.not_false, Decidable.not_not, Int.not_lt, Int.not_le] at hc); (try (exfalso; omega))))
    | (refine EndQ.mk rfl rfl rfl ?_ ?_ ?_; (focus (first | exact Or.inl rfl | exact Or.inr rfl)); (focus ((first | exact trivial | omega | exact ld_nums i3 _ _ (by first | assumption | omega | (simp only [List.length_append, offsTo_len]; omega)) | (exact (offsTo_len _ _).symm) | (rw [offsTo_len]; omega) | (simp only [List.length_append]; omega) | (show _ ≤ _; omega) | (simp only [List.length_take, List.length_drop, List.length_append, List.length_cons, List.length_nil]; omega) | ((repeat' (first | exact trivial | exact rfl | exact Nat.le_of_ble_eq_true rfl | refine And.intro ?_ ?_ | fail)); done) | ((try simp (disch := omega) only [NS, Nat.reduceBEq, Nat.reduceAdd, Nat.reduceMul, TY, slx, SJ1, SJ2, tn_add, image_append, List.length_append, List.take_left, List.drop_left, Int.natCast_add, wrap64_id, bne_self_eq_false, eq_self, decide_true, Bool.not_true]); (repeat' (first | exact trivial | exact rfl | exact ⟨_, _, rfl⟩ | exact ⟨_, rfl⟩ | exact Nat.le_of_ble_eq_true rfl | exact Nat.zero_lt_succ _ | omega | refine And.intro ?_ ?_ | fail)); done)); done)); (try simp (disch := omega) only [NS, Nat.reduceBEq, Nat.reduceAdd, Nat.reduceMul, TY, slx, SJ1, SJ2, tn_add, image_append, List.length_append, List.take_left, List.drop_left, Int.natCast_add, wrap64_id, bne_self_eq_false, eq_self, decide_true, Bool.not_true]))
    | fail)
  refine AW.loop [0, 1, 5, 8, 9] [] (fun n st => ∃ (k : Nat) (i : Int), st = SJ1 xs ys i ∧ k ≤ (image xs ++ image ys).length ∧ n = (image xs ++ image ys).length - k ∧ i = k) ?_ ?_
  · exact ⟨_, 0, _, rfl, Nat.zero_le _, rfl, rfl⟩
  · rintro n st ⟨k, i, rfl, hk, rfl, rfl⟩
    rw [List.length_append] at hk
    repeat' (first
      | refine AW.seq ?_
      | refine AW.block ?_
      | refine AW.region ?_
      | (refine AW.skip ?_; (try simp only [thenQ, blockQ, ↓reduceIte, Nat.reduceEqDiff]))
      | (refine AW.ret ?_; (try simp only [thenQ, blockQ, ↓reduceIte, Nat.reduceEqDiff]))
      | (refine AW.exit ?_; (try simp only [thenQ, blockQ, ↓reduceIte, Nat.reduceEqDiff]))
      | (refine AWL.nil ?_; (try simp only [thenQ, blockQ, ↓reduceIte, Nat.reduceEqDiff]))
      | (refine DQ.nil ?_; (try simp only [thenQ, blockQ, ↓reduceIte, Nat.reduceEqDiff]))
      | ((first
        | (refine AWL.op (sl := SL) rfl rfl ?_ ?_)
        | (refine DQ.op rfl rfl rfl rfl rfl ?_ ?_)
        | (refine DQ.yes rfl ?_ ?_)
        | (refine DQ.step rfl rfl rfl rfl (QStep.assign rfl) ?_)
        | (refine AWL.frzA rfl rfl ?_)
        | (refine AWL.callV (f := 9) rfl rfl rfl rfl ?_ (Nat.le_of_ble_eq_true rfl) rfl (awake_ok) ?_; (focus kernel_rfl))
        | (refine AWL.call (f := 9) rfl rfl rfl ?_ rfl (Nat.le_of_ble_eq_true rfl) rfl (awake_ok) ?_; (focus kernel_rfl))
        | (refine DQ.step rfl rfl rfl rfl (QStep.call (f := 9) rfl ?_ rfl (awake_ok) (fun _ _ h => h) (fun _ => rfl)) ?_; (focus kernel_rfl))
        | (refine DQ.yesC (QStep.call (f := 9) rfl ?_ rfl (awake_ok) (fun _ _ h => h) (fun _ => rfl)) ?_; (focus kernel_rfl))
        | (refine AWL.callV (f := 12) rfl rfl rfl rfl ?_ (Nat.le_of_ble_eq_true rfl) rfl (width_at _ _ ?_ ?_) ?_; (focus kernel_rfl))
        | (refine AWL.call (f := 12) rfl rfl rfl ?_ rfl (Nat.le_of_ble_eq_true rfl) rfl (width_at _ _ ?_ ?_) ?_; (focus kernel_rfl))
        | (refine DQ.step rfl rfl rfl rfl (QStep.call (f := 12) rfl ?_ rfl (width_at _ _ ?_ ?_) (fun _ _ h => h) (fun _ => rfl)) ?_; (focus kernel_rfl))
        | (refine DQ.yesC (QStep.call (f := 12) rfl ?_ rfl (width_at _ _ ?_ ?_) (fun _ _ h => h) (fun _ => rfl)) ?_; (focus kernel_rfl))
        | (refine AWL.callV (f := 15) rfl rfl rfl rfl ?_ (Nat.le_of_ble_eq_true rfl) rfl (types_look _ _ ?_ ?_) ?_; (focus kernel_rfl))
        | (refine AWL.call (f := 15) rfl rfl rfl ?_ rfl (Nat.le_of_ble_eq_true rfl) rfl (types_look _ _ ?_ ?_) ?_; (focus kernel_rfl))
        | (refine DQ.step rfl rfl rfl rfl (QStep.call (f := 15) rfl ?_ rfl (types_look _ _ ?_ ?_) (fun _ _ h => h) (fun _ => rfl)) ?_; (focus kernel_rfl))
        | (refine DQ.yesC (QStep.call (f := 15) rfl ?_ rfl (types_look _ _ ?_ ?_) (fun _ _ h => h) (fun _ => rfl)) ?_; (focus kernel_rfl))
        | (refine AWL.callV (f := 14) rfl rfl rfl rfl ?_ (Nat.le_of_ble_eq_true rfl) rfl (same_at _ _ _ _ ?_ ?_ ?_) ?_; (focus kernel_rfl))
        | (refine AWL.call (f := 14) rfl rfl rfl ?_ rfl (Nat.le_of_ble_eq_true rfl) rfl (same_at _ _ _ _ ?_ ?_ ?_) ?_; (focus kernel_rfl))
        | (refine DQ.step rfl rfl rfl rfl (QStep.call (f := 14) rfl ?_ rfl (same_at _ _ _ _ ?_ ?_ ?_) (fun _ _ h => h) (fun _ => rfl)) ?_; (focus kernel_rfl))
        | (refine DQ.yesC (QStep.call (f := 14) rfl ?_ rfl (same_at _ _ _ _ ?_ ?_ ?_) (fun _ _ h => h) (fun _ => rfl)) ?_; (focus kernel_rfl))
        | (refine AWL.callV (f := 16) rfl rfl rfl rfl ?_ (Nat.le_of_ble_eq_true rfl) rfl (off_look _ _ ?_ ?_) ?_; (focus kernel_rfl))
        | (refine AWL.call (f := 16) rfl rfl rfl ?_ rfl (Nat.le_of_ble_eq_true rfl) rfl (off_look _ _ ?_ ?_) ?_; (focus kernel_rfl))
        | (refine DQ.step rfl rfl rfl rfl (QStep.call (f := 16) rfl ?_ rfl (off_look _ _ ?_ ?_) (fun _ _ h => h) (fun _ => rfl)) ?_; (focus kernel_rfl))
        | (refine DQ.yesC (QStep.call (f := 16) rfl ?_ rfl (off_look _ _ ?_ ?_) (fun _ _ h => h) (fun _ => rfl)) ?_; (focus kernel_rfl))
        | fail) <;> (first | ((first | show AWL _ _ _ _ _ | show DQ _ _ _ _ _ _ | show AW _ _ _ _ | (rintro _ _ ⟨rfl, rfl⟩; (try refine And.intro rfl ?_))); (try simp (disch := omega) only [NS, Nat.reduceBEq, Nat.reduceAdd, Nat.reduceMul, TY, slx, SJ1, SJ2, tn_add, image_append, List.length_append, List.take_left, List.drop_left, Int.natCast_add, wrap64_id, bne_self_eq_false, eq_self, decide_true, Bool.not_true])) | (focus ((first | exact trivial | omega | exact ld_nums i3 _ _ (by first | assumption | omega | (simp only [List.length_append, offsTo_len]; omega)) | (exact (offsTo_len _ _).symm) | (rw [offsTo_len]; omega) | (simp only [List.length_append]; omega) | (show _ ≤ _; omega) | (simp only [List.length_take, List.length_drop, List.length_append, List.length_cons, List.length_nil]; omega) | ((repeat' (first | exact trivial | exact rfl | exact Nat.le_of_ble_eq_true rfl | refine And.intro ?_ ?_ | fail)); done) | ((try simp (disch := omega) only [NS, Nat.reduceBEq, Nat.reduceAdd, Nat.reduceMul, TY, slx, SJ1, SJ2, tn_add, image_append, List.length_append, List.take_left, List.drop_left, Int.natCast_add, wrap64_id, bne_self_eq_false, eq_self, decide_true, Bool.not_true]); (repeat' (first | exact trivial | exact rfl | exact ⟨_, _, rfl⟩ | exact ⟨_, rfl⟩ | exact Nat.le_of_ble_eq_true rfl | exact Nat.zero_lt_succ _ | omega | refine And.intro ?_ ?_ | fail)); done)); done))))
      | (refine AWL.guard2 rfl rfl rfl rfl rfl rfl ?_ ?_ <;> (intro hc; (try simp only [Bool.not_true, Bool.not_false] at hc); first | (cases hc; done) | ((try simp only [hc]); (try simp only [beq_iff_eq, bne_iff_ne, decide_eq_true_eq, decide_eq_false_iff_not, beq_eq_false_iff_ne, bne_eq_false_iff_eq, ne_eq, Bool.not_eq_true, Bool.not_eq_false, Bool.not_eq_eq_eq_not, Bool.not_true, Bool.not_false, Decidable.not_not, Int.not_lt, Int.not_le] at hc); (try (exfalso; omega)))))
      | (refine AWL.guard2 rfl rfl rfl rfl rfl rfl (fun hc => ?_) ?_; (cases hc; done))
      | (refine AW.drawn false hmix ?_ ?_; (focus kernel_rfl))
      | refine DQ.tail rfl ?_
      | (refine DQ.guard2 rfl rfl rfl rfl rfl rfl rfl ?_ ?_ <;> (intro hc; (try simp only [Bool.not_true, Bool.not_false] at hc); first | (cases hc; done) | ((try simp only [hc]); (try simp only [beq_iff_eq, bne_iff_ne, decide_eq_true_eq, decide_eq_false_iff_not, beq_eq_false_iff_ne, bne_eq_false_iff_eq, ne_eq, Bool.not_eq_true, Bool.not_eq_false, Bool.not_eq_eq_eq_not, Bool.not_true, Bool.not_false, Decidable.not_not, Int.not_lt, Int.not_le] at hc); (try (exfalso; omega)))))
      | (refine AW.cond rfl (fun hc => ?_) (fun hc => ?_) <;> first | (cases hc; done) | ((try simp only [beq_iff_eq, bne_iff_ne, decide_eq_true_eq, decide_eq_false_iff_not, beq_eq_false_iff_ne, bne_eq_false_iff_eq, ne_eq, Bool.not_eq_true, Bool.not_eq_false, Bool.not_eq_eq_eq_not, Bool.not_true, Bool.not_false, Decidable.not_not, Int.not_lt, Int.not_le] at hc); (try (exfalso; omega))))
      | (refine EndQ.mk rfl rfl rfl ?_ ?_ ?_; (focus (first | exact Or.inl rfl | exact Or.inr rfl)); (focus ((first | exact trivial | omega | exact ld_nums i3 _ _ (by first | assumption | omega | (simp only [List.length_append, offsTo_len]; omega)) | (exact (offsTo_len _ _).symm) | (rw [offsTo_len]; omega) | (simp only [List.length_append]; omega) | (show _ ≤ _; omega) | (simp only [List.length_take, List.length_drop, List.length_append, List.length_cons, List.length_nil]; omega) | ((repeat' (first | exact trivial | exact rfl | exact Nat.le_of_ble_eq_true rfl | refine And.intro ?_ ?_ | fail)); done) | ((try simp (disch := omega) only [NS, Nat.reduceBEq, Nat.reduceAdd, Nat.reduceMul, TY, slx, SJ1, SJ2, tn_add, image_append, List.length_append, List.take_left, List.drop_left, Int.natCast_add, wrap64_id, bne_self_eq_false, eq_self, decide_true, Bool.not_true]); (repeat' (first | exact trivial | exact rfl | exact ⟨_, _, rfl⟩ | exact ⟨_, rfl⟩ | exact Nat.le_of_ble_eq_true rfl | exact Nat.zero_lt_succ _ | omega | refine And.intro ?_ ?_ | fail)); done)); done)); (try simp (disch := omega) only [NS, Nat.reduceBEq, Nat.reduceAdd, Nat.reduceMul, TY, slx, SJ1, SJ2, tn_add, image_append, List.length_append, List.take_left, List.drop_left, Int.natCast_add, wrap64_id, bne_self_eq_false, eq_self, decide_true, Bool.not_true]))
      | fail)
    all_goals try simp (disch := omega) only [NS, Nat.reduceBEq, Nat.reduceAdd, Nat.reduceMul, TY, slx, SJ1, SJ2, tn_add, image_append, List.length_append, List.take_left, List.drop_left, Int.natCast_add, wrap64_id, bne_self_eq_false, eq_self, decide_true, Bool.not_true]
    · have hm := image_mem (xs ++ ys) _ (getD_mem (l := image (xs ++ ys)) (k := k) (by rw [image_append, List.length_append]; omega))
      rw [image_append] at hm
      exfalso; omega
    · exact ⟨(image xs).length + (image ys).length - (k + 1), by omega, k + 1, _, rfl, by omega, rfl, by omega⟩
    · exact ⟨(image xs).length + (image ys).length - (k + 1), by omega, k + 1, _, rfl, by omega, rfl, by omega⟩
    refine AW.loop [0, 1, 5, 10, 11, 12] [] (fun n st => ∃ (k : Nat) (i : Int), st = SJ2 xs ys i ∧ k ≤ ys.length ∧ n = ys.length - k ∧ i = k) ?_ ?_
    · exact ⟨_, 0, _, rfl, Nat.zero_le _, rfl, rfl⟩
    · rintro n st ⟨k, i, rfl, hk, rfl, rfl⟩
      have hoj := fun h => offs_join xs ys (xs.length + ys.length) k (by omega) ys.length h
      repeat' (first
        | refine AW.seq ?_
        | refine AW.block ?_
        | refine AW.region ?_
        | (refine AW.skip ?_; (try simp only [thenQ, blockQ, ↓reduceIte, Nat.reduceEqDiff]))
        | (refine AW.ret ?_; (try simp only [thenQ, blockQ, ↓reduceIte, Nat.reduceEqDiff]))
        | (refine AW.exit ?_; (try simp only [thenQ, blockQ, ↓reduceIte, Nat.reduceEqDiff]))
        | (refine AWL.nil ?_; (try simp only [thenQ, blockQ, ↓reduceIte, Nat.reduceEqDiff]))
        | (refine DQ.nil ?_; (try simp only [thenQ, blockQ, ↓reduceIte, Nat.reduceEqDiff]))
        | ((first
          | (refine AWL.op (sl := SL) rfl rfl ?_ ?_)
          | (refine DQ.op rfl rfl rfl rfl rfl ?_ ?_)
          | (refine DQ.yes rfl ?_ ?_)
          | (refine DQ.step rfl rfl rfl rfl (QStep.assign rfl) ?_)
          | (refine AWL.frzA rfl rfl ?_)
          | (refine AWL.callV (f := 9) rfl rfl rfl rfl ?_ (Nat.le_of_ble_eq_true rfl) rfl (awake_ok) ?_; (focus kernel_rfl))
          | (refine AWL.call (f := 9) rfl rfl rfl ?_ rfl (Nat.le_of_ble_eq_true rfl) rfl (awake_ok) ?_; (focus kernel_rfl))
          | (refine DQ.step rfl rfl rfl rfl (QStep.call (f := 9) rfl ?_ rfl (awake_ok) (fun _ _ h => h) (fun _ => rfl)) ?_; (focus kernel_rfl))
          | (refine DQ.yesC (QStep.call (f := 9) rfl ?_ rfl (awake_ok) (fun _ _ h => h) (fun _ => rfl)) ?_; (focus kernel_rfl))
          | (refine AWL.callV (f := 12) rfl rfl rfl rfl ?_ (Nat.le_of_ble_eq_true rfl) rfl (width_at _ _ ?_ ?_) ?_; (focus kernel_rfl))
          | (refine AWL.call (f := 12) rfl rfl rfl ?_ rfl (Nat.le_of_ble_eq_true rfl) rfl (width_at _ _ ?_ ?_) ?_; (focus kernel_rfl))
          | (refine DQ.step rfl rfl rfl rfl (QStep.call (f := 12) rfl ?_ rfl (width_at _ _ ?_ ?_) (fun _ _ h => h) (fun _ => rfl)) ?_; (focus kernel_rfl))
          | (refine DQ.yesC (QStep.call (f := 12) rfl ?_ rfl (width_at _ _ ?_ ?_) (fun _ _ h => h) (fun _ => rfl)) ?_; (focus kernel_rfl))
          | (refine AWL.callV (f := 15) rfl rfl rfl rfl ?_ (Nat.le_of_ble_eq_true rfl) rfl (types_look _ _ ?_ ?_) ?_; (focus kernel_rfl))
          | (refine AWL.call (f := 15) rfl rfl rfl ?_ rfl (Nat.le_of_ble_eq_true rfl) rfl (types_look _ _ ?_ ?_) ?_; (focus kernel_rfl))
          | (refine DQ.step rfl rfl rfl rfl (QStep.call (f := 15) rfl ?_ rfl (types_look _ _ ?_ ?_) (fun _ _ h => h) (fun _ => rfl)) ?_; (focus kernel_rfl))
          | (refine DQ.yesC (QStep.call (f := 15) rfl ?_ rfl (types_look _ _ ?_ ?_) (fun _ _ h => h) (fun _ => rfl)) ?_; (focus kernel_rfl))
          | (refine AWL.callV (f := 14) rfl rfl rfl rfl ?_ (Nat.le_of_ble_eq_true rfl) rfl (same_at _ _ _ _ ?_ ?_ ?_) ?_; (focus kernel_rfl))
          | (refine AWL.call (f := 14) rfl rfl rfl ?_ rfl (Nat.le_of_ble_eq_true rfl) rfl (same_at _ _ _ _ ?_ ?_ ?_) ?_; (focus kernel_rfl))
          | (refine DQ.step rfl rfl rfl rfl (QStep.call (f := 14) rfl ?_ rfl (same_at _ _ _ _ ?_ ?_ ?_) (fun _ _ h => h) (fun _ => rfl)) ?_; (focus kernel_rfl))
          | (refine DQ.yesC (QStep.call (f := 14) rfl ?_ rfl (same_at _ _ _ _ ?_ ?_ ?_) (fun _ _ h => h) (fun _ => rfl)) ?_; (focus kernel_rfl))
          | (refine AWL.callV (f := 16) rfl rfl rfl rfl ?_ (Nat.le_of_ble_eq_true rfl) rfl (off_look _ _ ?_ ?_) ?_; (focus kernel_rfl))
          | (refine AWL.call (f := 16) rfl rfl rfl ?_ rfl (Nat.le_of_ble_eq_true rfl) rfl (off_look _ _ ?_ ?_) ?_; (focus kernel_rfl))
          | (refine DQ.step rfl rfl rfl rfl (QStep.call (f := 16) rfl ?_ rfl (off_look _ _ ?_ ?_) (fun _ _ h => h) (fun _ => rfl)) ?_; (focus kernel_rfl))
          | (refine DQ.yesC (QStep.call (f := 16) rfl ?_ rfl (off_look _ _ ?_ ?_) (fun _ _ h => h) (fun _ => rfl)) ?_; (focus kernel_rfl))
          | fail) <;> (first | ((first | show AWL _ _ _ _ _ | show DQ _ _ _ _ _ _ | show AW _ _ _ _ | (rintro _ _ ⟨rfl, rfl⟩; (try refine And.intro rfl ?_))); (try simp (disch := omega) only [NS, Nat.reduceBEq, Nat.reduceAdd, Nat.reduceMul, TY, slx, SJ1, SJ2, tn_add, image_append, List.length_append, List.take_left, List.drop_left, Int.natCast_add, wrap64_id, bne_self_eq_false, eq_self, decide_true, Bool.not_true])) | (focus ((first | exact trivial | omega | exact ld_nums i3 _ _ (by first | assumption | omega | (simp only [List.length_append, offsTo_len]; omega)) | (exact (offsTo_len _ _).symm) | (rw [offsTo_len]; omega) | (simp only [List.length_append]; omega) | (show _ ≤ _; omega) | (simp only [List.length_take, List.length_drop, List.length_append, List.length_cons, List.length_nil]; omega) | ((repeat' (first | exact trivial | exact rfl | exact Nat.le_of_ble_eq_true rfl | refine And.intro ?_ ?_ | fail)); done) | ((try simp (disch := omega) only [NS, Nat.reduceBEq, Nat.reduceAdd, Nat.reduceMul, TY, slx, SJ1, SJ2, tn_add, image_append, List.length_append, List.take_left, List.drop_left, Int.natCast_add, wrap64_id, bne_self_eq_false, eq_self, decide_true, Bool.not_true]); (repeat' (first | exact trivial | exact rfl | exact ⟨_, _, rfl⟩ | exact ⟨_, rfl⟩ | exact Nat.le_of_ble_eq_true rfl | exact Nat.zero_lt_succ _ | omega | refine And.intro ?_ ?_ | fail)); done)); done))))
        | (refine AWL.guard2 rfl rfl rfl rfl rfl rfl ?_ ?_ <;> (intro hc; (try simp only [Bool.not_true, Bool.not_false] at hc); first | (cases hc; done) | ((try simp only [hc]); (try simp only [beq_iff_eq, bne_iff_ne, decide_eq_true_eq, decide_eq_false_iff_not, beq_eq_false_iff_ne, bne_eq_false_iff_eq, ne_eq, Bool.not_eq_true, Bool.not_eq_false, Bool.not_eq_eq_eq_not, Bool.not_true, Bool.not_false, Decidable.not_not, Int.not_lt, Int.not_le] at hc); (try (exfalso; omega)))))
        | (refine AWL.guard2 rfl rfl rfl rfl rfl rfl (fun hc => ?_) ?_; (cases hc; done))
        | (refine AW.drawn false hmix ?_ ?_; (focus kernel_rfl))
        | refine DQ.tail rfl ?_
        | (refine DQ.guard2 rfl rfl rfl rfl rfl rfl rfl ?_ ?_ <;> (intro hc; (try simp only [Bool.not_true, Bool.not_false] at hc); first | (cases hc; done) | ((try simp only [hc]); (try simp only [beq_iff_eq, bne_iff_ne, decide_eq_true_eq, decide_eq_false_iff_not, beq_eq_false_iff_ne, bne_eq_false_iff_eq, ne_eq, Bool.not_eq_true, Bool.not_eq_false, Bool.not_eq_eq_eq_not, Bool.not_true, Bool.not_false, Decidable.not_not, Int.not_lt, Int.not_le] at hc); (try (exfalso; omega)))))
        | (refine AW.cond rfl (fun hc => ?_) (fun hc => ?_) <;> first | (cases hc; done) | ((try simp only [beq_iff_eq, bne_iff_ne, decide_eq_true_eq, decide_eq_false_iff_not, beq_eq_false_iff_ne, bne_eq_false_iff_eq, ne_eq, Bool.not_eq_true, Bool.not_eq_false, Bool.not_eq_eq_eq_not, Bool.not_true, Bool.not_false, Decidable.not_not, Int.not_lt, Int.not_le] at hc); (try (exfalso; omega))))
        | (refine EndQ.mk rfl rfl rfl ?_ ?_ ?_; (focus (first | exact Or.inl rfl | exact Or.inr rfl)); (focus ((first | exact trivial | omega | exact ld_nums i3 _ _ (by first | assumption | omega | (simp only [List.length_append, offsTo_len]; omega)) | (exact (offsTo_len _ _).symm) | (rw [offsTo_len]; omega) | (simp only [List.length_append]; omega) | (show _ ≤ _; omega) | (simp only [List.length_take, List.length_drop, List.length_append, List.length_cons, List.length_nil]; omega) | ((repeat' (first | exact trivial | exact rfl | exact Nat.le_of_ble_eq_true rfl | refine And.intro ?_ ?_ | fail)); done) | ((try simp (disch := omega) only [NS, Nat.reduceBEq, Nat.reduceAdd, Nat.reduceMul, TY, slx, SJ1, SJ2, tn_add, image_append, List.length_append, List.take_left, List.drop_left, Int.natCast_add, wrap64_id, bne_self_eq_false, eq_self, decide_true, Bool.not_true]); (repeat' (first | exact trivial | exact rfl | exact ⟨_, _, rfl⟩ | exact ⟨_, rfl⟩ | exact Nat.le_of_ble_eq_true rfl | exact Nat.zero_lt_succ _ | omega | refine And.intro ?_ ?_ | fail)); done)); done)); (try simp (disch := omega) only [NS, Nat.reduceBEq, Nat.reduceAdd, Nat.reduceMul, TY, slx, SJ1, SJ2, tn_add, image_append, List.length_append, List.take_left, List.drop_left, Int.natCast_add, wrap64_id, bne_self_eq_false, eq_self, decide_true, Bool.not_true]))
        | fail)
      all_goals try simp (disch := omega) only [NS, Nat.reduceBEq, Nat.reduceAdd, Nat.reduceMul, TY, slx, SJ1, SJ2, tn_add, image_append, List.length_append, List.take_left, List.drop_left, Int.natCast_add, wrap64_id, bne_self_eq_false, eq_self, decide_true, Bool.not_true]
      · exfalso
        have h := hoj (by omega)
        have hb := offs_bd ys ys.length k
        rw [show ((xs.length : Int) + k).toNat = xs.length + k from by omega, h, wrap64_id _ (by omega) (by omega)] at hc
        exact hc rfl
      · exact ⟨ys.length - (k + 1), by omega, k + 1, _, rfl, by omega, rfl, by omega⟩
      · exact ⟨trivial, trivial⟩
end Go.Proofs.Ytbdmieljkgcpcaa
