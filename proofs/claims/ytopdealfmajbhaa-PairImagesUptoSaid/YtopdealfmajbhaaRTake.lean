/- the document's Take. -/
import Derived.Test.YtopdealfmajbhaaV5
import Derived.Test.YtopdealfmajbhaaRNeed
import Derived.Test.YtopdealfmajbhaaRSet
import Derived.Test.YtopdealfmajbhaaRJoin
import Derived.Test.YtopdealfmajbhaaTake
namespace Go.Proofs.Ytopdealfmajbhaa
set_option linter.unusedSimpArgs false
set_option linter.unusedVariables false
open Go Go.Abs
attribute [local irreducible] AW AWL AC FW CW CWr IntKind.wrap

def S31 (ts hs : List Int) (n : Nat) (c : List V) (at_ k : Int) : St := { n := 63, slots := [(0, .view ts.length 1 (nums .i64 ts)), (1, .view hs.length 1 (nums .u64 hs)), (4, .ref 4 0 0 16), (5, .int .i64 0), (6, .ref 6 0 n 16), (7, .int .i64 at_), (8, .int .i64 k)], mem := [(4, ⟨true, []⟩), (6, ⟨true, c⟩)] }
theorem widthL_at (ts : List Int) (k : Nat) (h : k < ts.length) : widthL (ts.take k) + need (ts.getD k 0) + widthL (ts.drop (k + 1)) = widthL ts := by
  have e : ts = ts.take k ++ (ts.getD k 0 :: ts.drop (k + 1)) := by rw [← drop_getD h, List.take_append_drop]
  have hw : ∀ a b : List Int, widthL (a ++ b) = widthL a + widthL b := by
    intro a b
    induction a with
    | nil => simp [widthL]
    | cons x a ih => simp only [List.cons_append, widthL, ih]; omega
  conv => rhs; rw [e, hw]
  simp only [widthL]; omega
def takeS (ts hs : List Int) : List (List Int) × Int := if widthS ts = hs.length then (takeL ts hs, 0) else ([], 1)
theorem takeS_eq (ts hs : List Int) : takeS ts hs = takeR ts hs [] := by
  rw [takeR_eq, takeS]
  unfold widthS
  cases h : okTs ts with
  | true =>
    rw [if_pos rfl]
    by_cases h2 : widthL ts = hs.length
    · rw [if_pos (by rw [h2]), if_pos ⟨rfl, h2⟩, List.nil_append]
    · rw [if_neg (by omega), if_neg (fun e => h2 e.2)]
  | false => rw [if_neg (show ¬((if false = true then (widthL ts : Int) else -1) = hs.length) from by rw [if_neg (by decide)]; omega), if_neg (fun e => by cases e.1)]
theorem getD_drop (l : List Int) (a b : Nat) : (l.drop a).getD b 0 = l.getD (a + b) 0 := by
  simp [List.getD_eq_getElem?_getD, List.getElem?_drop]
theorem takeL_snoc (ts hs : List Int) (k : Nat) (h : k < ts.length) : takeL (ts.take (k + 1)) hs = takeL (ts.take k) hs ++ [take1 (ts.getD k 0) (hs.drop (widthL (ts.take k)))] := by
  induction ts generalizing hs k with
  | nil => simp at h
  | cons t ts ih =>
    cases k with
    | zero => simp [takeL, widthL]
    | succ k =>
      simp only [List.take_succ_cons, takeL, List.getD_cons_succ, List.cons_append, widthL]
      rw [ih _ _ (by simpa using h), List.drop_drop]
theorem rset_z (w i x : Int) (hx : 0 ≤ x) (hx2 : x < 2 ^ 64) : AC Try.prog 23 [.fagg [V.int .u8 0, V.int .u8 0, V.int .u8 0, V.int .u8 0, V.int .u8 0, V.int .u8 0, V.int .u8 0, V.int .u8 0, V.int .u8 0, V.int .u8 0, V.int .u8 0, V.int .u8 0, V.int .u8 0, V.int .u8 0, V.int .u8 0, V.int .u8 0], .int .i64 w, .int .i64 i, .int .u64 x] (fun r m => r = .fagg (nums .u8 (set zero16 w i x)) ∧ m = []) :=
  rset_ok zero16 zero_ok.1 zero_ok.2 w i x hx hx2
set_option maxHeartbeats 6400000 in
theorem rtake_ok (ts hs : List Int) (hh : u64s hs) (hlen : ts.length ≤ 1048576) : AC Try.prog 31 [.view ts.length 1 (nums .i64 ts), .view hs.length 1 (nums .u64 hs)]
    (fun r m => r = .tup [.ref 4 0 (takeR ts hs []).1.length 16, .int .i64 (takeR ts hs []).2] ∧ m = [(4, vecC (takeR ts hs []).1)]) := by
  rw [← takeS_eq]
  have hu0 : True ∧ True := ⟨trivial, trivial⟩
  have hu1 : True ∧ True := ⟨trivial, trivial⟩
  refine AC.enter Try.func31 rfl (Nat.le_of_ble_eq_true rfl) ?_
  simp only [Try.f31]
  by_cases hw : widthS ts = hs.length
  · have hps : takeS ts hs = (takeL ts hs, 0) := if_pos hw
    rw [hps]
    have hok : okTs ts = true := by
      cases e : okTs ts with
      | true => rfl
      | false => unfold widthS at hw; rw [e, if_neg (by decide)] at hw; omega
    have hwl : widthL ts = hs.length := by unfold widthS at hw; rw [if_pos hok] at hw; omega
    have hwle := widthL_le ts
    have hchk : True := by simp only [TY, slx, take16, drop16, dz, nums_length, S31, List.length_append, vecC_app1, hw, bne_self_eq_false]
    repeat' (first
      | (refine AWL.opN (sl := SL) rfl rfl rfl trivial ?_; (try (conv => arg -1; simp (disch := omega) only [NSX, Nat.reduceBEq, Nat.reduceAdd, Nat.reduceMul, Int.reduceToNat, Nat.reduceSub, TY, slx, take16, drop16, dz, nums_length, S31, List.length_append, vecC_app1, hw, bne_self_eq_false])))
      | (refine AW.seqQ ?_; intro Qn hQn)
      | (refine AW.blockQ ?_; intro Qn hQn)
      | refine AW.region ?_
      | ((first | refine AW.skip ?_ | refine AW.ret ?_ | refine AW.exit ?_ | refine AWL.nil ?_ | refine CW.nil ?_); (repeat (first | refine QEq.mp (by assumption) ?_ | simp only [thenQ, Go.Abs.blockQ, ↓reduceIte, Nat.reduceEqDiff])))
      | refine FW.nil ?_
      | refine FW.pass rfl rfl ?_
      | refine FW.go rfl ?_
      | refine CW.skip rfl rfl ?_
      | refine CW.step rfl rfl rfl rfl rfl ?_
      | ((first
        | (refine AWL.boxF (t := 25) rfl rfl rfl rfl rfl ?_)
        | (refine AWL.allocF (t := 25) rfl rfl rfl rfl rfl rfl ?_)
        | (refine CWr.allocF (t := 25) rfl rfl rfl ?_ ?_)
        | (refine AWL.op (sl := SL) rfl rfl ?_ ?_)
        | (refine FW.float rfl rfl rfl rfl rfl ?_)
        | (refine CWr.op rfl ?_ ?_ ?_)
        | (refine CWr.assign rfl ?_ ?_)
        | (refine CWr.alloc rfl rfl rfl rfl ?_)
        | (refine CWr.build rfl rfl rfl rfl ?_ rfl rfl rfl ?_)
        | (refine AWL.frzA rfl rfl ?_)
        | (refine AWL.callV (f := 23) rfl rfl rfl rfl ?_ (Nat.le_of_ble_eq_true rfl) rfl (rset_z _ _ _ ?_ ?_) ?_; (focus kernel_rfl))
        | (refine AWL.call (f := 23) rfl rfl rfl ?_ rfl (Nat.le_of_ble_eq_true rfl) rfl (rset_z _ _ _ ?_ ?_) ?_; (focus kernel_rfl))
        | (refine CWr.call (f := 23) rfl ?_ rfl (rset_z _ _ _ ?_ ?_) (fun _ _ h => h) ?_ ?_ ?_; (focus kernel_rfl))
        | (refine AWL.callV (f := 23) rfl rfl rfl rfl ?_ (Nat.le_of_ble_eq_true rfl) rfl (rset_ok _ ?_ ?_ _ _ _ ?_ ?_) ?_; (focus kernel_rfl))
        | (refine AWL.call (f := 23) rfl rfl rfl ?_ rfl (Nat.le_of_ble_eq_true rfl) rfl (rset_ok _ ?_ ?_ _ _ _ ?_ ?_) ?_; (focus kernel_rfl))
        | (refine CWr.call (f := 23) rfl ?_ rfl (rset_ok _ ?_ ?_ _ _ _ ?_ ?_) (fun _ _ h => h) ?_ ?_ ?_; (focus kernel_rfl))
        | (refine AWL.callV (f := 35) rfl rfl rfl rfl ?_ (Nat.le_of_ble_eq_true rfl) rfl (rwidth_at _ _ ?_ hlen) ?_; (focus kernel_rfl))
        | (refine AWL.call (f := 35) rfl rfl rfl ?_ rfl (Nat.le_of_ble_eq_true rfl) rfl (rwidth_at _ _ ?_ hlen) ?_; (focus kernel_rfl))
        | (refine CWr.call (f := 35) rfl ?_ rfl (rwidth_at _ _ ?_ hlen) (fun _ _ h => h) ?_ ?_ ?_; (focus kernel_rfl))
        | (refine AWL.callV (f := 36) rfl rfl rfl rfl ?_ (Nat.le_of_ble_eq_true rfl) rfl (rneed_ok _) ?_; (focus kernel_rfl))
        | (refine AWL.call (f := 36) rfl rfl rfl ?_ rfl (Nat.le_of_ble_eq_true rfl) rfl (rneed_ok _) ?_; (focus kernel_rfl))
        | (refine CWr.call (f := 36) rfl ?_ rfl (rneed_ok _) (fun _ _ h => h) ?_ ?_ ?_; (focus kernel_rfl))
        | fail) <;> (try ((first | show AWL _ _ _ _ _ | show AW _ _ _ _ | show FW _ _ _ _ _ _ _ _ _ _ | show CW _ _ _ _ _ _ _ _ _ _ _ _ | (rintro _ _ ⟨rfl, rfl⟩; (try refine And.intro rfl ?_))); (try (conv => arg -1; simp (disch := omega) only [NSX, Nat.reduceBEq, Nat.reduceAdd, Nat.reduceMul, Int.reduceToNat, Nat.reduceSub, TY, slx, take16, drop16, dz, nums_length, S31, List.length_append, vecC_app1, hw, bne_self_eq_false])))))
      | ((first | refine AWL.guard2 rfl rfl rfl rfl rfl rfl ?_ ?_ | refine CW.guard2 rfl rfl rfl rfl rfl rfl rfl rfl ?_ ?_) <;> (intro hc; (try simp only [Bool.not_true, Bool.not_false] at hc); first | (cases hc; done) | ((try simp only [hc]); (try simp only [beq_iff_eq, bne_iff_ne, decide_eq_true_eq, decide_eq_false_iff_not, beq_eq_false_iff_ne, bne_eq_false_iff_eq, ne_eq, Bool.not_eq_true, Bool.not_eq_false, Bool.not_eq_eq_eq_not, Bool.not_true, Bool.not_false, Decidable.not_not, Int.not_lt, Int.not_le] at hc); (try (exfalso; omega)); (try (guard_hyp hc : True; clear hc)))))
      | (refine AWL.guard2 rfl rfl rfl rfl rfl rfl (fun hc => ?_) ?_; (cases hc; done))
      | ((first | ((show AW _ (.region _ _ true) _ _); refine AW.calm false [] [] hmix (by (repeat' (first | exact panOk_end | exact panOk_endM | refine panOk_then ?_ | refine panOk_block ?_ | refine QEq.pan (by assumption) ?_))) ?_ rfl ?_; (focus (as_aux_lemma => kernel_rfl))) | refine AWL.guardU rfl rfl rfl rfl rfl rfl ?_ | refine CW.guardU rfl rfl rfl rfl rfl rfl rfl rfl ?_); (try (conv => arg -1; simp (disch := omega) only [NSX, Nat.reduceBEq, Nat.reduceAdd, Nat.reduceMul, Int.reduceToNat, Nat.reduceSub, TY, slx, take16, drop16, dz, nums_length, S31, List.length_append, vecC_app1, hw, bne_self_eq_false])))
      | refine CW.tail rfl ?_
      | (refine AW.cond rfl (fun hc => ?_) (fun hc => ?_) <;> first | (cases hc; done) | ((try simp only [beq_iff_eq, bne_iff_ne, decide_eq_true_eq, decide_eq_false_iff_not, beq_eq_false_iff_ne, bne_eq_false_iff_eq, ne_eq, Bool.not_eq_true, Bool.not_eq_false, Bool.not_eq_eq_eq_not, Bool.not_true, Bool.not_false, Decidable.not_not, Int.not_lt, Int.not_le] at hc); (try (exfalso; omega)); (try (guard_hyp hc : True; clear hc))))
      | ((refine EndQ.mk rfl rfl rfl ?_ ?_ ?_; (focus (first | exact Or.inl rfl | exact Or.inr rfl))) <;> (try simp (disch := omega) only [NSX, Nat.reduceBEq, Nat.reduceAdd, Nat.reduceMul, Int.reduceToNat, Nat.reduceSub, TY, slx, take16, drop16, dz, nums_length, S31, List.length_append, vecC_app1, hw, bne_self_eq_false]))
      | (focus ((first | exact trivial | omega | (refine And.intro (by kernel_rfl) (And.intro ⟨_, (by first | exact nums_ints _ _ | rfl), (by first | exact nums_ints _ _ | rfl)⟩ (And.intro ?_ ?_)) <;> (first | rfl | assumption | (simp only [nums_length]; omega) | omega)) | (refine And.intro ?_ (And.intro ?_ ?_); (focus kernel_rfl); (focus kernel_rfl); (focus kernel_rfl)) | ((show newKs _ _ _ = true); kernel_rfl) | ((show FitV _ _ _ _ _ _); (repeat' (first | exact trivial | exact Or.inr (Or.inl rfl) | exact Or.inl rfl | exact Or.inr (Or.inr rfl) | refine And.intro ?_ ?_)); done) | assumption | ((first | refine ld_nums i3 _ _ ?_ | refine ld_nums i29 _ _ ?_ | refine ld_nums i5 _ _ ?_ | refine at_nums i3 _ _ ?_ | refine at_nums i29 _ _ ?_ | refine at_nums i5 _ _ ?_); first | assumption | omega | (simp only [List.length_append]; omega)) | exact join_len _ _ | exact join_bytes _ _ | exact (set_ok _ _ _ zero_ok.1 zero_ok.2).1 | exact (set_ok _ _ _ zero_ok.1 zero_ok.2).2 | exact zero_ok.1 | exact zero_ok.2 | exact hu0.1 | exact hu0.2 | exact hu1.1 | exact hu1.2 | (simp only [byVec, roomC]; omega) | (show _ ≤ _; omega) | (simp only [List.length_take, List.length_drop, List.length_append, List.length_cons, List.length_nil]; omega) | ((repeat' (first | exact trivial | exact rfl | exact Nat.le_of_ble_eq_true rfl | refine And.intro ?_ ?_ | fail)); done) | ((try simp (disch := omega) only [NSX, Nat.reduceBEq, Nat.reduceAdd, Nat.reduceMul, Int.reduceToNat, Nat.reduceSub, TY, slx, take16, drop16, dz, nums_length, S31, List.length_append, vecC_app1, hw, bne_self_eq_false]); (repeat' (first | exact trivial | exact rfl | exact ⟨_, _, rfl⟩ | exact ⟨_, rfl⟩ | exact Nat.le_of_ble_eq_true rfl | exact Nat.zero_lt_succ _ | omega | (simp only [nums_length, toB_len] at *; omega) | refine And.intro ?_ ?_ | fail)); done)); done))
      | fail)
    refine AW.loop [0, 1, 4, 5, 6, 7, 8] [4, 6] (fun m st => ∃ (k n : Nat) (a : Nat) (o : List (List Int)), st = S31 ts hs n (vecC o) a k ∧ k ≤ ts.length ∧ m = ts.length - k ∧ n = o.length ∧ n ≤ k ∧ a = widthL (ts.take k) ∧ o = takeL (ts.take k) hs ∧ vecs o) ?_ ?_
    · exact ⟨_, 0, _, _, [], rfl, Nat.zero_le _, rfl, rfl, Nat.le_refl _, rfl, rfl, (by intro v hv; cases hv)⟩
    · rintro m st ⟨k, n, a, o, rfl, hk, rfl, rfl, hn, ha, ho, hv⟩
      have e5 : IntKind.i64.wrap ((k : Int) + 1) = ((k + 1 : Nat) : Int) := wrap64_id _ (by omega) (by omega)
      have hol := vecC_len hv
      by_cases hkn : k < ts.length
      · have hto : (vecC o).take (o.length * 16) = vecC o := List.take_of_length_le (by omega)
        have hwa := widthL_at ts k hkn
        have hsn := takeL_snoc ts hs k hkn
        have hwn : widthL (ts.take (k + 1)) = a + need (ts.getD k 0) := by rw [take_snoc _ _ hkn, widthL_snoc, ha]
        have hne : need (ts.getD k 0) ≠ 0 := fun e => by rw [okTs_at hkn e] at hok; cases hok
        rw [← ha, ← ho] at hsn
        have g0 := getD_drop hs a 0
        have g1 := getD_drop hs a 1
        rw [Nat.add_zero] at g0
        have hu0 : a < hs.length → 0 ≤ hs.getD a 0 ∧ hs.getD a 0 < 2 ^ 64 := fun h => hh _ (getD_mem h)
        have hu1 : a + 1 < hs.length → 0 ≤ hs.getD (a + 1) 0 ∧ hs.getD (a + 1) 0 < 2 ^ 64 := fun h => hh _ (getD_mem h)
        have hvn := vecs_snoc hv (take1_ok (ts.getD k 0) (hs.drop a))
        rw [← hsn] at hvn
        have s1 := set_lo (x := hs.getD a 0)
        have s2 := set_hi (x := hs.getD a 0) (y := hs.getD (a + 1) 0)
        have hnl := need_le (ts.getD k 0)
        have e6 : IntKind.i64.wrap ((a : Int) + (need (ts.getD k 0) : Int)) = (widthL (ts.take (k + 1)) : Nat) := by rw [hwn, Int.natCast_add]; exact wrap64_id _ (by omega) (by omega)
        have e7 : IntKind.i64.wrap ((a : Int) + 1) = ((a + 1 : Nat) : Int) := wrap64_id _ (by omega) (by omega)
        rcases need_cases (ts.getD k 0) with h1 | h1 | h1 | ⟨h0, h1, h2, h3⟩
        · have hlt : a < hs.length := by rw [h1, show need 127 = 1 from rfl] at hwa; omega
          have hu0 := hu0 hlt
          have s3 := set_lo32 hu0.1
          rw [h1] at hsn
          simp only [take1, Int.reduceEq, if_true, if_false, ↓reduceIte, g0] at hsn
          rw [h1] at e6
          have hchk : True := by simp only [TY, slx, take16, drop16, dz, nums_length, S31, List.length_append, vecC_app1, e5, e6, h1, s3, join_len, take_join, djoin, hto]
          repeat' (first
            | (refine AWL.opN (sl := SL) rfl rfl rfl trivial ?_; (try (conv => arg -1; simp (disch := omega) only [NSX, Nat.reduceBEq, Nat.reduceAdd, Nat.reduceMul, Int.reduceToNat, Nat.reduceSub, TY, slx, take16, drop16, dz, nums_length, S31, List.length_append, vecC_app1, e5, e6, h1, s3, join_len, take_join, djoin, hto])))
            | (refine AW.seqQ ?_; intro Qn hQn)
            | (refine AW.blockQ ?_; intro Qn hQn)
            | refine AW.region ?_
            | ((first | refine AW.skip ?_ | refine AW.ret ?_ | refine AW.exit ?_ | refine AWL.nil ?_ | refine CW.nil ?_); (repeat (first | refine QEq.mp (by assumption) ?_ | simp only [thenQ, Go.Abs.blockQ, ↓reduceIte, Nat.reduceEqDiff])))
            | refine FW.nil ?_
            | refine FW.pass rfl rfl ?_
            | refine FW.go rfl ?_
            | refine CW.skip rfl rfl ?_
            | refine CW.step rfl rfl rfl rfl rfl ?_
            | ((first
              | (refine AWL.boxF (t := 25) rfl rfl rfl rfl rfl ?_)
              | (refine AWL.allocF (t := 25) rfl rfl rfl rfl rfl rfl ?_)
              | (refine CWr.allocF (t := 25) rfl rfl rfl ?_ ?_)
              | (refine AWL.op (sl := SL) rfl rfl ?_ ?_)
              | (refine FW.float rfl rfl rfl rfl rfl ?_)
              | (refine CWr.op rfl ?_ ?_ ?_)
              | (refine CWr.assign rfl ?_ ?_)
              | (refine CWr.alloc rfl rfl rfl rfl ?_)
              | (refine CWr.build rfl rfl rfl rfl ?_ rfl rfl rfl ?_)
              | (refine AWL.frzA rfl rfl ?_)
              | (refine AWL.callV (f := 23) rfl rfl rfl rfl ?_ (Nat.le_of_ble_eq_true rfl) rfl (rset_z _ _ _ ?_ ?_) ?_; (focus kernel_rfl))
              | (refine AWL.call (f := 23) rfl rfl rfl ?_ rfl (Nat.le_of_ble_eq_true rfl) rfl (rset_z _ _ _ ?_ ?_) ?_; (focus kernel_rfl))
              | (refine CWr.call (f := 23) rfl ?_ rfl (rset_z _ _ _ ?_ ?_) (fun _ _ h => h) ?_ ?_ ?_; (focus kernel_rfl))
              | (refine AWL.callV (f := 23) rfl rfl rfl rfl ?_ (Nat.le_of_ble_eq_true rfl) rfl (rset_ok _ ?_ ?_ _ _ _ ?_ ?_) ?_; (focus kernel_rfl))
              | (refine AWL.call (f := 23) rfl rfl rfl ?_ rfl (Nat.le_of_ble_eq_true rfl) rfl (rset_ok _ ?_ ?_ _ _ _ ?_ ?_) ?_; (focus kernel_rfl))
              | (refine CWr.call (f := 23) rfl ?_ rfl (rset_ok _ ?_ ?_ _ _ _ ?_ ?_) (fun _ _ h => h) ?_ ?_ ?_; (focus kernel_rfl))
              | (refine AWL.callV (f := 35) rfl rfl rfl rfl ?_ (Nat.le_of_ble_eq_true rfl) rfl (rwidth_at _ _ ?_ hlen) ?_; (focus kernel_rfl))
              | (refine AWL.call (f := 35) rfl rfl rfl ?_ rfl (Nat.le_of_ble_eq_true rfl) rfl (rwidth_at _ _ ?_ hlen) ?_; (focus kernel_rfl))
              | (refine CWr.call (f := 35) rfl ?_ rfl (rwidth_at _ _ ?_ hlen) (fun _ _ h => h) ?_ ?_ ?_; (focus kernel_rfl))
              | (refine AWL.callV (f := 36) rfl rfl rfl rfl ?_ (Nat.le_of_ble_eq_true rfl) rfl (rneed_ok _) ?_; (focus kernel_rfl))
              | (refine AWL.call (f := 36) rfl rfl rfl ?_ rfl (Nat.le_of_ble_eq_true rfl) rfl (rneed_ok _) ?_; (focus kernel_rfl))
              | (refine CWr.call (f := 36) rfl ?_ rfl (rneed_ok _) (fun _ _ h => h) ?_ ?_ ?_; (focus kernel_rfl))
              | fail) <;> (try ((first | show AWL _ _ _ _ _ | show AW _ _ _ _ | show FW _ _ _ _ _ _ _ _ _ _ | show CW _ _ _ _ _ _ _ _ _ _ _ _ | (rintro _ _ ⟨rfl, rfl⟩; (try refine And.intro rfl ?_))); (try (conv => arg -1; simp (disch := omega) only [NSX, Nat.reduceBEq, Nat.reduceAdd, Nat.reduceMul, Int.reduceToNat, Nat.reduceSub, TY, slx, take16, drop16, dz, nums_length, S31, List.length_append, vecC_app1, e5, e6, h1, s3, join_len, take_join, djoin, hto])))))
            | ((first | refine AWL.guard2 rfl rfl rfl rfl rfl rfl ?_ ?_ | refine CW.guard2 rfl rfl rfl rfl rfl rfl rfl rfl ?_ ?_) <;> (intro hc; (try simp only [Bool.not_true, Bool.not_false] at hc); first | (cases hc; done) | ((try simp only [hc]); (try simp only [beq_iff_eq, bne_iff_ne, decide_eq_true_eq, decide_eq_false_iff_not, beq_eq_false_iff_ne, bne_eq_false_iff_eq, ne_eq, Bool.not_eq_true, Bool.not_eq_false, Bool.not_eq_eq_eq_not, Bool.not_true, Bool.not_false, Decidable.not_not, Int.not_lt, Int.not_le] at hc); (try (exfalso; omega)); (try (guard_hyp hc : True; clear hc)))))
            | (refine AWL.guard2 rfl rfl rfl rfl rfl rfl (fun hc => ?_) ?_; (cases hc; done))
            | ((first | ((show AW _ (.region _ _ true) _ _); refine AW.calm false [] [] hmix (by (repeat' (first | exact panOk_end | exact panOk_endM | refine panOk_then ?_ | refine panOk_block ?_ | refine QEq.pan (by assumption) ?_))) ?_ rfl ?_; (focus (as_aux_lemma => kernel_rfl))) | refine AWL.guardU rfl rfl rfl rfl rfl rfl ?_ | refine CW.guardU rfl rfl rfl rfl rfl rfl rfl rfl ?_); (try (conv => arg -1; simp (disch := omega) only [NSX, Nat.reduceBEq, Nat.reduceAdd, Nat.reduceMul, Int.reduceToNat, Nat.reduceSub, TY, slx, take16, drop16, dz, nums_length, S31, List.length_append, vecC_app1, e5, e6, h1, s3, join_len, take_join, djoin, hto])))
            | refine CW.tail rfl ?_
            | (refine AW.cond rfl (fun hc => ?_) (fun hc => ?_) <;> first | (cases hc; done) | ((try simp only [beq_iff_eq, bne_iff_ne, decide_eq_true_eq, decide_eq_false_iff_not, beq_eq_false_iff_ne, bne_eq_false_iff_eq, ne_eq, Bool.not_eq_true, Bool.not_eq_false, Bool.not_eq_eq_eq_not, Bool.not_true, Bool.not_false, Decidable.not_not, Int.not_lt, Int.not_le] at hc); (try (exfalso; omega)); (try (guard_hyp hc : True; clear hc))))
            | ((refine EndQ.mk rfl rfl rfl ?_ ?_ ?_; (focus (first | exact Or.inl rfl | exact Or.inr rfl))) <;> (try simp (disch := omega) only [NSX, Nat.reduceBEq, Nat.reduceAdd, Nat.reduceMul, Int.reduceToNat, Nat.reduceSub, TY, slx, take16, drop16, dz, nums_length, S31, List.length_append, vecC_app1, e5, e6, h1, s3, join_len, take_join, djoin, hto]))
            | (focus ((first | exact trivial | omega | (refine And.intro (by kernel_rfl) (And.intro ⟨_, (by first | exact nums_ints _ _ | rfl), (by first | exact nums_ints _ _ | rfl)⟩ (And.intro ?_ ?_)) <;> (first | rfl | assumption | (simp only [nums_length]; omega) | omega)) | (refine And.intro ?_ (And.intro ?_ ?_); (focus kernel_rfl); (focus kernel_rfl); (focus kernel_rfl)) | ((show newKs _ _ _ = true); kernel_rfl) | ((show FitV _ _ _ _ _ _); (repeat' (first | exact trivial | exact Or.inr (Or.inl rfl) | exact Or.inl rfl | exact Or.inr (Or.inr rfl) | refine And.intro ?_ ?_)); done) | assumption | ((first | refine ld_nums i3 _ _ ?_ | refine ld_nums i29 _ _ ?_ | refine ld_nums i5 _ _ ?_ | refine at_nums i3 _ _ ?_ | refine at_nums i29 _ _ ?_ | refine at_nums i5 _ _ ?_); first | assumption | omega | (simp only [List.length_append]; omega)) | exact join_len _ _ | exact join_bytes _ _ | exact (set_ok _ _ _ zero_ok.1 zero_ok.2).1 | exact (set_ok _ _ _ zero_ok.1 zero_ok.2).2 | exact zero_ok.1 | exact zero_ok.2 | exact hu0.1 | exact hu0.2 | exact hu1.1 | exact hu1.2 | (simp only [byVec, roomC]; omega) | (show _ ≤ _; omega) | (simp only [List.length_take, List.length_drop, List.length_append, List.length_cons, List.length_nil]; omega) | ((repeat' (first | exact trivial | exact rfl | exact Nat.le_of_ble_eq_true rfl | refine And.intro ?_ ?_ | fail)); done) | ((try simp (disch := omega) only [NSX, Nat.reduceBEq, Nat.reduceAdd, Nat.reduceMul, Int.reduceToNat, Nat.reduceSub, TY, slx, take16, drop16, dz, nums_length, S31, List.length_append, vecC_app1, e5, e6, h1, s3, join_len, take_join, djoin, hto]); (repeat' (first | exact trivial | exact rfl | exact ⟨_, _, rfl⟩ | exact ⟨_, rfl⟩ | exact Nat.le_of_ble_eq_true rfl | exact Nat.zero_lt_succ _ | omega | (simp only [nums_length, toB_len] at *; omega) | refine And.intro ?_ ?_ | fail)); done)); done))
            | fail)
          all_goals try simp (disch := omega) only [NSX, Nat.reduceBEq, Nat.reduceAdd, Nat.reduceMul, Int.reduceToNat, Nat.reduceSub, TY, slx, take16, drop16, dz, nums_length, S31, List.length_append, vecC_app1, e5, e6, h1, s3, join_len, take_join, djoin, hto]
          all_goals first
            | (exact ⟨ts.length - (k + 1), by omega, k + 1, _, _, _, rfl, by omega, rfl, by simp only [List.length_append, List.length_cons, List.length_nil], by omega, rfl, hsn.symm, by rw [← hsn]; exact hvn⟩)
            | (exfalso; omega)
            | trace_state
        · have hlt : a < hs.length := by rw [h1, show need 126 = 1 from rfl] at hwa; omega
          have hu0 := hu0 hlt
          rw [h1] at hsn
          simp only [take1, Int.reduceEq, if_true, if_false, ↓reduceIte, g0] at hsn
          rw [h1] at e6
          have hchk : True := by simp only [TY, slx, take16, drop16, dz, nums_length, S31, List.length_append, vecC_app1, e5, e6, h1, s1, join_len, take_join, djoin, hto]
          repeat' (first
            | (refine AWL.opN (sl := SL) rfl rfl rfl trivial ?_; (try (conv => arg -1; simp (disch := omega) only [NSX, Nat.reduceBEq, Nat.reduceAdd, Nat.reduceMul, Int.reduceToNat, Nat.reduceSub, TY, slx, take16, drop16, dz, nums_length, S31, List.length_append, vecC_app1, e5, e6, h1, s1, join_len, take_join, djoin, hto])))
            | (refine AW.seqQ ?_; intro Qn hQn)
            | (refine AW.blockQ ?_; intro Qn hQn)
            | refine AW.region ?_
            | ((first | refine AW.skip ?_ | refine AW.ret ?_ | refine AW.exit ?_ | refine AWL.nil ?_ | refine CW.nil ?_); (repeat (first | refine QEq.mp (by assumption) ?_ | simp only [thenQ, Go.Abs.blockQ, ↓reduceIte, Nat.reduceEqDiff])))
            | refine FW.nil ?_
            | refine FW.pass rfl rfl ?_
            | refine FW.go rfl ?_
            | refine CW.skip rfl rfl ?_
            | refine CW.step rfl rfl rfl rfl rfl ?_
            | ((first
              | (refine AWL.boxF (t := 25) rfl rfl rfl rfl rfl ?_)
              | (refine AWL.allocF (t := 25) rfl rfl rfl rfl rfl rfl ?_)
              | (refine CWr.allocF (t := 25) rfl rfl rfl ?_ ?_)
              | (refine AWL.op (sl := SL) rfl rfl ?_ ?_)
              | (refine FW.float rfl rfl rfl rfl rfl ?_)
              | (refine CWr.op rfl ?_ ?_ ?_)
              | (refine CWr.assign rfl ?_ ?_)
              | (refine CWr.alloc rfl rfl rfl rfl ?_)
              | (refine CWr.build rfl rfl rfl rfl ?_ rfl rfl rfl ?_)
              | (refine AWL.frzA rfl rfl ?_)
              | (refine AWL.callV (f := 23) rfl rfl rfl rfl ?_ (Nat.le_of_ble_eq_true rfl) rfl (rset_z _ _ _ ?_ ?_) ?_; (focus kernel_rfl))
              | (refine AWL.call (f := 23) rfl rfl rfl ?_ rfl (Nat.le_of_ble_eq_true rfl) rfl (rset_z _ _ _ ?_ ?_) ?_; (focus kernel_rfl))
              | (refine CWr.call (f := 23) rfl ?_ rfl (rset_z _ _ _ ?_ ?_) (fun _ _ h => h) ?_ ?_ ?_; (focus kernel_rfl))
              | (refine AWL.callV (f := 23) rfl rfl rfl rfl ?_ (Nat.le_of_ble_eq_true rfl) rfl (rset_ok _ ?_ ?_ _ _ _ ?_ ?_) ?_; (focus kernel_rfl))
              | (refine AWL.call (f := 23) rfl rfl rfl ?_ rfl (Nat.le_of_ble_eq_true rfl) rfl (rset_ok _ ?_ ?_ _ _ _ ?_ ?_) ?_; (focus kernel_rfl))
              | (refine CWr.call (f := 23) rfl ?_ rfl (rset_ok _ ?_ ?_ _ _ _ ?_ ?_) (fun _ _ h => h) ?_ ?_ ?_; (focus kernel_rfl))
              | (refine AWL.callV (f := 35) rfl rfl rfl rfl ?_ (Nat.le_of_ble_eq_true rfl) rfl (rwidth_at _ _ ?_ hlen) ?_; (focus kernel_rfl))
              | (refine AWL.call (f := 35) rfl rfl rfl ?_ rfl (Nat.le_of_ble_eq_true rfl) rfl (rwidth_at _ _ ?_ hlen) ?_; (focus kernel_rfl))
              | (refine CWr.call (f := 35) rfl ?_ rfl (rwidth_at _ _ ?_ hlen) (fun _ _ h => h) ?_ ?_ ?_; (focus kernel_rfl))
              | (refine AWL.callV (f := 36) rfl rfl rfl rfl ?_ (Nat.le_of_ble_eq_true rfl) rfl (rneed_ok _) ?_; (focus kernel_rfl))
              | (refine AWL.call (f := 36) rfl rfl rfl ?_ rfl (Nat.le_of_ble_eq_true rfl) rfl (rneed_ok _) ?_; (focus kernel_rfl))
              | (refine CWr.call (f := 36) rfl ?_ rfl (rneed_ok _) (fun _ _ h => h) ?_ ?_ ?_; (focus kernel_rfl))
              | fail) <;> (try ((first | show AWL _ _ _ _ _ | show AW _ _ _ _ | show FW _ _ _ _ _ _ _ _ _ _ | show CW _ _ _ _ _ _ _ _ _ _ _ _ | (rintro _ _ ⟨rfl, rfl⟩; (try refine And.intro rfl ?_))); (try (conv => arg -1; simp (disch := omega) only [NSX, Nat.reduceBEq, Nat.reduceAdd, Nat.reduceMul, Int.reduceToNat, Nat.reduceSub, TY, slx, take16, drop16, dz, nums_length, S31, List.length_append, vecC_app1, e5, e6, h1, s1, join_len, take_join, djoin, hto])))))
            | ((first | refine AWL.guard2 rfl rfl rfl rfl rfl rfl ?_ ?_ | refine CW.guard2 rfl rfl rfl rfl rfl rfl rfl rfl ?_ ?_) <;> (intro hc; (try simp only [Bool.not_true, Bool.not_false] at hc); first | (cases hc; done) | ((try simp only [hc]); (try simp only [beq_iff_eq, bne_iff_ne, decide_eq_true_eq, decide_eq_false_iff_not, beq_eq_false_iff_ne, bne_eq_false_iff_eq, ne_eq, Bool.not_eq_true, Bool.not_eq_false, Bool.not_eq_eq_eq_not, Bool.not_true, Bool.not_false, Decidable.not_not, Int.not_lt, Int.not_le] at hc); (try (exfalso; omega)); (try (guard_hyp hc : True; clear hc)))))
            | (refine AWL.guard2 rfl rfl rfl rfl rfl rfl (fun hc => ?_) ?_; (cases hc; done))
            | ((first | ((show AW _ (.region _ _ true) _ _); refine AW.calm false [] [] hmix (by (repeat' (first | exact panOk_end | exact panOk_endM | refine panOk_then ?_ | refine panOk_block ?_ | refine QEq.pan (by assumption) ?_))) ?_ rfl ?_; (focus (as_aux_lemma => kernel_rfl))) | refine AWL.guardU rfl rfl rfl rfl rfl rfl ?_ | refine CW.guardU rfl rfl rfl rfl rfl rfl rfl rfl ?_); (try (conv => arg -1; simp (disch := omega) only [NSX, Nat.reduceBEq, Nat.reduceAdd, Nat.reduceMul, Int.reduceToNat, Nat.reduceSub, TY, slx, take16, drop16, dz, nums_length, S31, List.length_append, vecC_app1, e5, e6, h1, s1, join_len, take_join, djoin, hto])))
            | refine CW.tail rfl ?_
            | (refine AW.cond rfl (fun hc => ?_) (fun hc => ?_) <;> first | (cases hc; done) | ((try simp only [beq_iff_eq, bne_iff_ne, decide_eq_true_eq, decide_eq_false_iff_not, beq_eq_false_iff_ne, bne_eq_false_iff_eq, ne_eq, Bool.not_eq_true, Bool.not_eq_false, Bool.not_eq_eq_eq_not, Bool.not_true, Bool.not_false, Decidable.not_not, Int.not_lt, Int.not_le] at hc); (try (exfalso; omega)); (try (guard_hyp hc : True; clear hc))))
            | ((refine EndQ.mk rfl rfl rfl ?_ ?_ ?_; (focus (first | exact Or.inl rfl | exact Or.inr rfl))) <;> (try simp (disch := omega) only [NSX, Nat.reduceBEq, Nat.reduceAdd, Nat.reduceMul, Int.reduceToNat, Nat.reduceSub, TY, slx, take16, drop16, dz, nums_length, S31, List.length_append, vecC_app1, e5, e6, h1, s1, join_len, take_join, djoin, hto]))
            | (focus ((first | exact trivial | omega | (refine And.intro (by kernel_rfl) (And.intro ⟨_, (by first | exact nums_ints _ _ | rfl), (by first | exact nums_ints _ _ | rfl)⟩ (And.intro ?_ ?_)) <;> (first | rfl | assumption | (simp only [nums_length]; omega) | omega)) | (refine And.intro ?_ (And.intro ?_ ?_); (focus kernel_rfl); (focus kernel_rfl); (focus kernel_rfl)) | ((show newKs _ _ _ = true); kernel_rfl) | ((show FitV _ _ _ _ _ _); (repeat' (first | exact trivial | exact Or.inr (Or.inl rfl) | exact Or.inl rfl | exact Or.inr (Or.inr rfl) | refine And.intro ?_ ?_)); done) | assumption | ((first | refine ld_nums i3 _ _ ?_ | refine ld_nums i29 _ _ ?_ | refine ld_nums i5 _ _ ?_ | refine at_nums i3 _ _ ?_ | refine at_nums i29 _ _ ?_ | refine at_nums i5 _ _ ?_); first | assumption | omega | (simp only [List.length_append]; omega)) | exact join_len _ _ | exact join_bytes _ _ | exact (set_ok _ _ _ zero_ok.1 zero_ok.2).1 | exact (set_ok _ _ _ zero_ok.1 zero_ok.2).2 | exact zero_ok.1 | exact zero_ok.2 | exact hu0.1 | exact hu0.2 | exact hu1.1 | exact hu1.2 | (simp only [byVec, roomC]; omega) | (show _ ≤ _; omega) | (simp only [List.length_take, List.length_drop, List.length_append, List.length_cons, List.length_nil]; omega) | ((repeat' (first | exact trivial | exact rfl | exact Nat.le_of_ble_eq_true rfl | refine And.intro ?_ ?_ | fail)); done) | ((try simp (disch := omega) only [NSX, Nat.reduceBEq, Nat.reduceAdd, Nat.reduceMul, Int.reduceToNat, Nat.reduceSub, TY, slx, take16, drop16, dz, nums_length, S31, List.length_append, vecC_app1, e5, e6, h1, s1, join_len, take_join, djoin, hto]); (repeat' (first | exact trivial | exact rfl | exact ⟨_, _, rfl⟩ | exact ⟨_, rfl⟩ | exact Nat.le_of_ble_eq_true rfl | exact Nat.zero_lt_succ _ | omega | (simp only [nums_length, toB_len] at *; omega) | refine And.intro ?_ ?_ | fail)); done)); done))
            | fail)
          all_goals try simp (disch := omega) only [NSX, Nat.reduceBEq, Nat.reduceAdd, Nat.reduceMul, Int.reduceToNat, Nat.reduceSub, TY, slx, take16, drop16, dz, nums_length, S31, List.length_append, vecC_app1, e5, e6, h1, s1, join_len, take_join, djoin, hto]
          all_goals first
            | (exact ⟨ts.length - (k + 1), by omega, k + 1, _, _, _, rfl, by omega, rfl, by simp only [List.length_append, List.length_cons, List.length_nil], by omega, rfl, hsn.symm, by rw [← hsn]; exact hvn⟩)
            | (exfalso; omega)
            | trace_state
        · have hlt : a + 1 < hs.length := by rw [h1, show need 123 = 2 from rfl] at hwa; omega
          have hu0 := hu0 (by omega)
          have hu1 := hu1 hlt
          rw [h1] at hsn
          simp only [take1, Int.reduceEq, if_true, if_false, ↓reduceIte, g0, g1] at hsn
          rw [h1] at e6
          have hchk : True := by simp only [TY, slx, take16, drop16, dz, nums_length, S31, List.length_append, vecC_app1, e5, e6, e7, h1, s1, s2, join_len, take_join, djoin, hto]
          repeat' (first
            | (refine AWL.opN (sl := SL) rfl rfl rfl trivial ?_; (try (conv => arg -1; simp (disch := omega) only [NSX, Nat.reduceBEq, Nat.reduceAdd, Nat.reduceMul, Int.reduceToNat, Nat.reduceSub, TY, slx, take16, drop16, dz, nums_length, S31, List.length_append, vecC_app1, e5, e6, e7, h1, s1, s2, join_len, take_join, djoin, hto])))
            | (refine AW.seqQ ?_; intro Qn hQn)
            | (refine AW.blockQ ?_; intro Qn hQn)
            | refine AW.region ?_
            | ((first | refine AW.skip ?_ | refine AW.ret ?_ | refine AW.exit ?_ | refine AWL.nil ?_ | refine CW.nil ?_); (repeat (first | refine QEq.mp (by assumption) ?_ | simp only [thenQ, Go.Abs.blockQ, ↓reduceIte, Nat.reduceEqDiff])))
            | refine FW.nil ?_
            | refine FW.pass rfl rfl ?_
            | refine FW.go rfl ?_
            | refine CW.skip rfl rfl ?_
            | refine CW.step rfl rfl rfl rfl rfl ?_
            | ((first
              | (refine AWL.boxF (t := 25) rfl rfl rfl rfl rfl ?_)
              | (refine AWL.allocF (t := 25) rfl rfl rfl rfl rfl rfl ?_)
              | (refine CWr.allocF (t := 25) rfl rfl rfl ?_ ?_)
              | (refine AWL.op (sl := SL) rfl rfl ?_ ?_)
              | (refine FW.float rfl rfl rfl rfl rfl ?_)
              | (refine CWr.op rfl ?_ ?_ ?_)
              | (refine CWr.assign rfl ?_ ?_)
              | (refine CWr.alloc rfl rfl rfl rfl ?_)
              | (refine CWr.build rfl rfl rfl rfl ?_ rfl rfl rfl ?_)
              | (refine AWL.frzA rfl rfl ?_)
              | (refine AWL.callV (f := 23) rfl rfl rfl rfl ?_ (Nat.le_of_ble_eq_true rfl) rfl (rset_z _ _ _ ?_ ?_) ?_; (focus kernel_rfl))
              | (refine AWL.call (f := 23) rfl rfl rfl ?_ rfl (Nat.le_of_ble_eq_true rfl) rfl (rset_z _ _ _ ?_ ?_) ?_; (focus kernel_rfl))
              | (refine CWr.call (f := 23) rfl ?_ rfl (rset_z _ _ _ ?_ ?_) (fun _ _ h => h) ?_ ?_ ?_; (focus kernel_rfl))
              | (refine AWL.callV (f := 23) rfl rfl rfl rfl ?_ (Nat.le_of_ble_eq_true rfl) rfl (rset_ok _ ?_ ?_ _ _ _ ?_ ?_) ?_; (focus kernel_rfl))
              | (refine AWL.call (f := 23) rfl rfl rfl ?_ rfl (Nat.le_of_ble_eq_true rfl) rfl (rset_ok _ ?_ ?_ _ _ _ ?_ ?_) ?_; (focus kernel_rfl))
              | (refine CWr.call (f := 23) rfl ?_ rfl (rset_ok _ ?_ ?_ _ _ _ ?_ ?_) (fun _ _ h => h) ?_ ?_ ?_; (focus kernel_rfl))
              | (refine AWL.callV (f := 35) rfl rfl rfl rfl ?_ (Nat.le_of_ble_eq_true rfl) rfl (rwidth_at _ _ ?_ hlen) ?_; (focus kernel_rfl))
              | (refine AWL.call (f := 35) rfl rfl rfl ?_ rfl (Nat.le_of_ble_eq_true rfl) rfl (rwidth_at _ _ ?_ hlen) ?_; (focus kernel_rfl))
              | (refine CWr.call (f := 35) rfl ?_ rfl (rwidth_at _ _ ?_ hlen) (fun _ _ h => h) ?_ ?_ ?_; (focus kernel_rfl))
              | (refine AWL.callV (f := 36) rfl rfl rfl rfl ?_ (Nat.le_of_ble_eq_true rfl) rfl (rneed_ok _) ?_; (focus kernel_rfl))
              | (refine AWL.call (f := 36) rfl rfl rfl ?_ rfl (Nat.le_of_ble_eq_true rfl) rfl (rneed_ok _) ?_; (focus kernel_rfl))
              | (refine CWr.call (f := 36) rfl ?_ rfl (rneed_ok _) (fun _ _ h => h) ?_ ?_ ?_; (focus kernel_rfl))
              | fail) <;> (try ((first | show AWL _ _ _ _ _ | show AW _ _ _ _ | show FW _ _ _ _ _ _ _ _ _ _ | show CW _ _ _ _ _ _ _ _ _ _ _ _ | (rintro _ _ ⟨rfl, rfl⟩; (try refine And.intro rfl ?_))); (try (conv => arg -1; simp (disch := omega) only [NSX, Nat.reduceBEq, Nat.reduceAdd, Nat.reduceMul, Int.reduceToNat, Nat.reduceSub, TY, slx, take16, drop16, dz, nums_length, S31, List.length_append, vecC_app1, e5, e6, e7, h1, s1, s2, join_len, take_join, djoin, hto])))))
            | ((first | refine AWL.guard2 rfl rfl rfl rfl rfl rfl ?_ ?_ | refine CW.guard2 rfl rfl rfl rfl rfl rfl rfl rfl ?_ ?_) <;> (intro hc; (try simp only [Bool.not_true, Bool.not_false] at hc); first | (cases hc; done) | ((try simp only [hc]); (try simp only [beq_iff_eq, bne_iff_ne, decide_eq_true_eq, decide_eq_false_iff_not, beq_eq_false_iff_ne, bne_eq_false_iff_eq, ne_eq, Bool.not_eq_true, Bool.not_eq_false, Bool.not_eq_eq_eq_not, Bool.not_true, Bool.not_false, Decidable.not_not, Int.not_lt, Int.not_le] at hc); (try (exfalso; omega)); (try (guard_hyp hc : True; clear hc)))))
            | (refine AWL.guard2 rfl rfl rfl rfl rfl rfl (fun hc => ?_) ?_; (cases hc; done))
            | ((first | ((show AW _ (.region _ _ true) _ _); refine AW.calm false [] [] hmix (by (repeat' (first | exact panOk_end | exact panOk_endM | refine panOk_then ?_ | refine panOk_block ?_ | refine QEq.pan (by assumption) ?_))) ?_ rfl ?_; (focus (as_aux_lemma => kernel_rfl))) | refine AWL.guardU rfl rfl rfl rfl rfl rfl ?_ | refine CW.guardU rfl rfl rfl rfl rfl rfl rfl rfl ?_); (try (conv => arg -1; simp (disch := omega) only [NSX, Nat.reduceBEq, Nat.reduceAdd, Nat.reduceMul, Int.reduceToNat, Nat.reduceSub, TY, slx, take16, drop16, dz, nums_length, S31, List.length_append, vecC_app1, e5, e6, e7, h1, s1, s2, join_len, take_join, djoin, hto])))
            | refine CW.tail rfl ?_
            | (refine AW.cond rfl (fun hc => ?_) (fun hc => ?_) <;> first | (cases hc; done) | ((try simp only [beq_iff_eq, bne_iff_ne, decide_eq_true_eq, decide_eq_false_iff_not, beq_eq_false_iff_ne, bne_eq_false_iff_eq, ne_eq, Bool.not_eq_true, Bool.not_eq_false, Bool.not_eq_eq_eq_not, Bool.not_true, Bool.not_false, Decidable.not_not, Int.not_lt, Int.not_le] at hc); (try (exfalso; omega)); (try (guard_hyp hc : True; clear hc))))
            | ((refine EndQ.mk rfl rfl rfl ?_ ?_ ?_; (focus (first | exact Or.inl rfl | exact Or.inr rfl))) <;> (try simp (disch := omega) only [NSX, Nat.reduceBEq, Nat.reduceAdd, Nat.reduceMul, Int.reduceToNat, Nat.reduceSub, TY, slx, take16, drop16, dz, nums_length, S31, List.length_append, vecC_app1, e5, e6, e7, h1, s1, s2, join_len, take_join, djoin, hto]))
            | (focus ((first | exact trivial | omega | (refine And.intro (by kernel_rfl) (And.intro ⟨_, (by first | exact nums_ints _ _ | rfl), (by first | exact nums_ints _ _ | rfl)⟩ (And.intro ?_ ?_)) <;> (first | rfl | assumption | (simp only [nums_length]; omega) | omega)) | (refine And.intro ?_ (And.intro ?_ ?_); (focus kernel_rfl); (focus kernel_rfl); (focus kernel_rfl)) | ((show newKs _ _ _ = true); kernel_rfl) | ((show FitV _ _ _ _ _ _); (repeat' (first | exact trivial | exact Or.inr (Or.inl rfl) | exact Or.inl rfl | exact Or.inr (Or.inr rfl) | refine And.intro ?_ ?_)); done) | assumption | ((first | refine ld_nums i3 _ _ ?_ | refine ld_nums i29 _ _ ?_ | refine ld_nums i5 _ _ ?_ | refine at_nums i3 _ _ ?_ | refine at_nums i29 _ _ ?_ | refine at_nums i5 _ _ ?_); first | assumption | omega | (simp only [List.length_append]; omega)) | exact join_len _ _ | exact join_bytes _ _ | exact (set_ok _ _ _ zero_ok.1 zero_ok.2).1 | exact (set_ok _ _ _ zero_ok.1 zero_ok.2).2 | exact zero_ok.1 | exact zero_ok.2 | exact hu0.1 | exact hu0.2 | exact hu1.1 | exact hu1.2 | (simp only [byVec, roomC]; omega) | (show _ ≤ _; omega) | (simp only [List.length_take, List.length_drop, List.length_append, List.length_cons, List.length_nil]; omega) | ((repeat' (first | exact trivial | exact rfl | exact Nat.le_of_ble_eq_true rfl | refine And.intro ?_ ?_ | fail)); done) | ((try simp (disch := omega) only [NSX, Nat.reduceBEq, Nat.reduceAdd, Nat.reduceMul, Int.reduceToNat, Nat.reduceSub, TY, slx, take16, drop16, dz, nums_length, S31, List.length_append, vecC_app1, e5, e6, e7, h1, s1, s2, join_len, take_join, djoin, hto]); (repeat' (first | exact trivial | exact rfl | exact ⟨_, _, rfl⟩ | exact ⟨_, rfl⟩ | exact Nat.le_of_ble_eq_true rfl | exact Nat.zero_lt_succ _ | omega | (simp only [nums_length, toB_len] at *; omega) | refine And.intro ?_ ?_ | fail)); done)); done))
            | fail)
          all_goals try simp (disch := omega) only [NSX, Nat.reduceBEq, Nat.reduceAdd, Nat.reduceMul, Int.reduceToNat, Nat.reduceSub, TY, slx, take16, drop16, dz, nums_length, S31, List.length_append, vecC_app1, e5, e6, e7, h1, s1, s2, join_len, take_join, djoin, hto]
          all_goals first
            | (exact ⟨ts.length - (k + 1), by omega, k + 1, _, _, _, rfl, by omega, rfl, by simp only [List.length_append, List.length_cons, List.length_nil], by omega, rfl, hsn.symm, by rw [← hsn]; exact hvn⟩)
            | (exfalso; omega)
            | trace_state
        · exact absurd h0 hne
      · rw [List.take_of_length_le (by omega)] at ho
        have hchk : True := by simp only [TY, slx, take16, drop16, dz, nums_length, S31, List.length_append, vecC_app1, hol]
        repeat' (first
          | (refine AWL.opN (sl := SL) rfl rfl rfl trivial ?_; (try (conv => arg -1; simp (disch := omega) only [NSX, Nat.reduceBEq, Nat.reduceAdd, Nat.reduceMul, Int.reduceToNat, Nat.reduceSub, TY, slx, take16, drop16, dz, nums_length, S31, List.length_append, vecC_app1, hol])))
          | (refine AW.seqQ ?_; intro Qn hQn)
          | (refine AW.blockQ ?_; intro Qn hQn)
          | refine AW.region ?_
          | ((first | refine AW.skip ?_ | refine AW.ret ?_ | refine AW.exit ?_ | refine AWL.nil ?_ | refine CW.nil ?_); (repeat (first | refine QEq.mp (by assumption) ?_ | simp only [thenQ, Go.Abs.blockQ, ↓reduceIte, Nat.reduceEqDiff])))
          | refine FW.nil ?_
          | refine FW.pass rfl rfl ?_
          | refine FW.go rfl ?_
          | refine CW.skip rfl rfl ?_
          | refine CW.step rfl rfl rfl rfl rfl ?_
          | ((first
            | (refine AWL.boxF (t := 25) rfl rfl rfl rfl rfl ?_)
            | (refine AWL.allocF (t := 25) rfl rfl rfl rfl rfl rfl ?_)
            | (refine CWr.allocF (t := 25) rfl rfl rfl ?_ ?_)
            | (refine AWL.op (sl := SL) rfl rfl ?_ ?_)
            | (refine FW.float rfl rfl rfl rfl rfl ?_)
            | (refine CWr.op rfl ?_ ?_ ?_)
            | (refine CWr.assign rfl ?_ ?_)
            | (refine CWr.alloc rfl rfl rfl rfl ?_)
            | (refine CWr.build rfl rfl rfl rfl ?_ rfl rfl rfl ?_)
            | (refine AWL.frzA rfl rfl ?_)
            | (refine AWL.callV (f := 23) rfl rfl rfl rfl ?_ (Nat.le_of_ble_eq_true rfl) rfl (rset_z _ _ _ ?_ ?_) ?_; (focus kernel_rfl))
            | (refine AWL.call (f := 23) rfl rfl rfl ?_ rfl (Nat.le_of_ble_eq_true rfl) rfl (rset_z _ _ _ ?_ ?_) ?_; (focus kernel_rfl))
            | (refine CWr.call (f := 23) rfl ?_ rfl (rset_z _ _ _ ?_ ?_) (fun _ _ h => h) ?_ ?_ ?_; (focus kernel_rfl))
            | (refine AWL.callV (f := 23) rfl rfl rfl rfl ?_ (Nat.le_of_ble_eq_true rfl) rfl (rset_ok _ ?_ ?_ _ _ _ ?_ ?_) ?_; (focus kernel_rfl))
            | (refine AWL.call (f := 23) rfl rfl rfl ?_ rfl (Nat.le_of_ble_eq_true rfl) rfl (rset_ok _ ?_ ?_ _ _ _ ?_ ?_) ?_; (focus kernel_rfl))
            | (refine CWr.call (f := 23) rfl ?_ rfl (rset_ok _ ?_ ?_ _ _ _ ?_ ?_) (fun _ _ h => h) ?_ ?_ ?_; (focus kernel_rfl))
            | (refine AWL.callV (f := 35) rfl rfl rfl rfl ?_ (Nat.le_of_ble_eq_true rfl) rfl (rwidth_at _ _ ?_ hlen) ?_; (focus kernel_rfl))
            | (refine AWL.call (f := 35) rfl rfl rfl ?_ rfl (Nat.le_of_ble_eq_true rfl) rfl (rwidth_at _ _ ?_ hlen) ?_; (focus kernel_rfl))
            | (refine CWr.call (f := 35) rfl ?_ rfl (rwidth_at _ _ ?_ hlen) (fun _ _ h => h) ?_ ?_ ?_; (focus kernel_rfl))
            | (refine AWL.callV (f := 36) rfl rfl rfl rfl ?_ (Nat.le_of_ble_eq_true rfl) rfl (rneed_ok _) ?_; (focus kernel_rfl))
            | (refine AWL.call (f := 36) rfl rfl rfl ?_ rfl (Nat.le_of_ble_eq_true rfl) rfl (rneed_ok _) ?_; (focus kernel_rfl))
            | (refine CWr.call (f := 36) rfl ?_ rfl (rneed_ok _) (fun _ _ h => h) ?_ ?_ ?_; (focus kernel_rfl))
            | fail) <;> (try ((first | show AWL _ _ _ _ _ | show AW _ _ _ _ | show FW _ _ _ _ _ _ _ _ _ _ | show CW _ _ _ _ _ _ _ _ _ _ _ _ | (rintro _ _ ⟨rfl, rfl⟩; (try refine And.intro rfl ?_))); (try (conv => arg -1; simp (disch := omega) only [NSX, Nat.reduceBEq, Nat.reduceAdd, Nat.reduceMul, Int.reduceToNat, Nat.reduceSub, TY, slx, take16, drop16, dz, nums_length, S31, List.length_append, vecC_app1, hol])))))
          | ((first | refine AWL.guard2 rfl rfl rfl rfl rfl rfl ?_ ?_ | refine CW.guard2 rfl rfl rfl rfl rfl rfl rfl rfl ?_ ?_) <;> (intro hc; (try simp only [Bool.not_true, Bool.not_false] at hc); first | (cases hc; done) | ((try simp only [hc]); (try simp only [beq_iff_eq, bne_iff_ne, decide_eq_true_eq, decide_eq_false_iff_not, beq_eq_false_iff_ne, bne_eq_false_iff_eq, ne_eq, Bool.not_eq_true, Bool.not_eq_false, Bool.not_eq_eq_eq_not, Bool.not_true, Bool.not_false, Decidable.not_not, Int.not_lt, Int.not_le] at hc); (try (exfalso; omega)); (try (guard_hyp hc : True; clear hc)))))
          | (refine AWL.guard2 rfl rfl rfl rfl rfl rfl (fun hc => ?_) ?_; (cases hc; done))
          | ((first | ((show AW _ (.region _ _ true) _ _); refine AW.calm false [] [] hmix (by (repeat' (first | exact panOk_end | exact panOk_endM | refine panOk_then ?_ | refine panOk_block ?_ | refine QEq.pan (by assumption) ?_))) ?_ rfl ?_; (focus (as_aux_lemma => kernel_rfl))) | refine AWL.guardU rfl rfl rfl rfl rfl rfl ?_ | refine CW.guardU rfl rfl rfl rfl rfl rfl rfl rfl ?_); (try (conv => arg -1; simp (disch := omega) only [NSX, Nat.reduceBEq, Nat.reduceAdd, Nat.reduceMul, Int.reduceToNat, Nat.reduceSub, TY, slx, take16, drop16, dz, nums_length, S31, List.length_append, vecC_app1, hol])))
          | refine CW.tail rfl ?_
          | (refine AW.cond rfl (fun hc => ?_) (fun hc => ?_) <;> first | (cases hc; done) | ((try simp only [beq_iff_eq, bne_iff_ne, decide_eq_true_eq, decide_eq_false_iff_not, beq_eq_false_iff_ne, bne_eq_false_iff_eq, ne_eq, Bool.not_eq_true, Bool.not_eq_false, Bool.not_eq_eq_eq_not, Bool.not_true, Bool.not_false, Decidable.not_not, Int.not_lt, Int.not_le] at hc); (try (exfalso; omega)); (try (guard_hyp hc : True; clear hc))))
          | ((refine EndQ.mk rfl rfl rfl ?_ ?_ ?_; (focus (first | exact Or.inl rfl | exact Or.inr rfl))) <;> (try simp (disch := omega) only [NSX, Nat.reduceBEq, Nat.reduceAdd, Nat.reduceMul, Int.reduceToNat, Nat.reduceSub, TY, slx, take16, drop16, dz, nums_length, S31, List.length_append, vecC_app1, hol]))
          | (focus ((first | exact trivial | omega | (refine And.intro (by kernel_rfl) (And.intro ⟨_, (by first | exact nums_ints _ _ | rfl), (by first | exact nums_ints _ _ | rfl)⟩ (And.intro ?_ ?_)) <;> (first | rfl | assumption | (simp only [nums_length]; omega) | omega)) | (refine And.intro ?_ (And.intro ?_ ?_); (focus kernel_rfl); (focus kernel_rfl); (focus kernel_rfl)) | ((show newKs _ _ _ = true); kernel_rfl) | ((show FitV _ _ _ _ _ _); (repeat' (first | exact trivial | exact Or.inr (Or.inl rfl) | exact Or.inl rfl | exact Or.inr (Or.inr rfl) | refine And.intro ?_ ?_)); done) | assumption | ((first | refine ld_nums i3 _ _ ?_ | refine ld_nums i29 _ _ ?_ | refine ld_nums i5 _ _ ?_ | refine at_nums i3 _ _ ?_ | refine at_nums i29 _ _ ?_ | refine at_nums i5 _ _ ?_); first | assumption | omega | (simp only [List.length_append]; omega)) | exact join_len _ _ | exact join_bytes _ _ | exact (set_ok _ _ _ zero_ok.1 zero_ok.2).1 | exact (set_ok _ _ _ zero_ok.1 zero_ok.2).2 | exact zero_ok.1 | exact zero_ok.2 | exact hu0.1 | exact hu0.2 | exact hu1.1 | exact hu1.2 | (simp only [byVec, roomC]; omega) | (show _ ≤ _; omega) | (simp only [List.length_take, List.length_drop, List.length_append, List.length_cons, List.length_nil]; omega) | ((repeat' (first | exact trivial | exact rfl | exact Nat.le_of_ble_eq_true rfl | refine And.intro ?_ ?_ | fail)); done) | ((try simp (disch := omega) only [NSX, Nat.reduceBEq, Nat.reduceAdd, Nat.reduceMul, Int.reduceToNat, Nat.reduceSub, TY, slx, take16, drop16, dz, nums_length, S31, List.length_append, vecC_app1, hol]); (repeat' (first | exact trivial | exact rfl | exact ⟨_, _, rfl⟩ | exact ⟨_, rfl⟩ | exact Nat.le_of_ble_eq_true rfl | exact Nat.zero_lt_succ _ | omega | (simp only [nums_length, toB_len] at *; omega) | refine And.intro ?_ ?_ | fail)); done)); done))
          | fail)
        all_goals first | exact ⟨trivial, trivial⟩ | exact ⟨rfl, trivial⟩ | exact ⟨rfl, rfl⟩ | exact ⟨trivial, rfl⟩ | (rw [← ho]; first | exact ⟨rfl, rfl⟩ | exact ⟨rfl, trivial⟩) | (exfalso; omega) | trace_state
  · have hps : takeS ts hs = ([], 1) := if_neg hw
    rw [hps]
    have hchk : True := by simp only [TY, slx, take16, drop16, dz, nums_length, S31, List.length_append, vecC_app1]
    repeat' (first
      | (refine AWL.opN (sl := SL) rfl rfl rfl trivial ?_; (try (conv => arg -1; simp (disch := omega) only [NSX, Nat.reduceBEq, Nat.reduceAdd, Nat.reduceMul, Int.reduceToNat, Nat.reduceSub, TY, slx, take16, drop16, dz, nums_length, S31, List.length_append, vecC_app1])))
      | (refine AW.seqQ ?_; intro Qn hQn)
      | (refine AW.blockQ ?_; intro Qn hQn)
      | refine AW.region ?_
      | ((first | refine AW.skip ?_ | refine AW.ret ?_ | refine AW.exit ?_ | refine AWL.nil ?_ | refine CW.nil ?_); (repeat (first | refine QEq.mp (by assumption) ?_ | simp only [thenQ, Go.Abs.blockQ, ↓reduceIte, Nat.reduceEqDiff])))
      | refine FW.nil ?_
      | refine FW.pass rfl rfl ?_
      | refine FW.go rfl ?_
      | refine CW.skip rfl rfl ?_
      | refine CW.step rfl rfl rfl rfl rfl ?_
      | ((first
        | (refine AWL.boxF (t := 25) rfl rfl rfl rfl rfl ?_)
        | (refine AWL.allocF (t := 25) rfl rfl rfl rfl rfl rfl ?_)
        | (refine CWr.allocF (t := 25) rfl rfl rfl ?_ ?_)
        | (refine AWL.op (sl := SL) rfl rfl ?_ ?_)
        | (refine FW.float rfl rfl rfl rfl rfl ?_)
        | (refine CWr.op rfl ?_ ?_ ?_)
        | (refine CWr.assign rfl ?_ ?_)
        | (refine CWr.alloc rfl rfl rfl rfl ?_)
        | (refine CWr.build rfl rfl rfl rfl ?_ rfl rfl rfl ?_)
        | (refine AWL.frzA rfl rfl ?_)
        | (refine AWL.callV (f := 23) rfl rfl rfl rfl ?_ (Nat.le_of_ble_eq_true rfl) rfl (rset_z _ _ _ ?_ ?_) ?_; (focus kernel_rfl))
        | (refine AWL.call (f := 23) rfl rfl rfl ?_ rfl (Nat.le_of_ble_eq_true rfl) rfl (rset_z _ _ _ ?_ ?_) ?_; (focus kernel_rfl))
        | (refine CWr.call (f := 23) rfl ?_ rfl (rset_z _ _ _ ?_ ?_) (fun _ _ h => h) ?_ ?_ ?_; (focus kernel_rfl))
        | (refine AWL.callV (f := 23) rfl rfl rfl rfl ?_ (Nat.le_of_ble_eq_true rfl) rfl (rset_ok _ ?_ ?_ _ _ _ ?_ ?_) ?_; (focus kernel_rfl))
        | (refine AWL.call (f := 23) rfl rfl rfl ?_ rfl (Nat.le_of_ble_eq_true rfl) rfl (rset_ok _ ?_ ?_ _ _ _ ?_ ?_) ?_; (focus kernel_rfl))
        | (refine CWr.call (f := 23) rfl ?_ rfl (rset_ok _ ?_ ?_ _ _ _ ?_ ?_) (fun _ _ h => h) ?_ ?_ ?_; (focus kernel_rfl))
        | (refine AWL.callV (f := 35) rfl rfl rfl rfl ?_ (Nat.le_of_ble_eq_true rfl) rfl (rwidth_at _ _ ?_ hlen) ?_; (focus kernel_rfl))
        | (refine AWL.call (f := 35) rfl rfl rfl ?_ rfl (Nat.le_of_ble_eq_true rfl) rfl (rwidth_at _ _ ?_ hlen) ?_; (focus kernel_rfl))
        | (refine CWr.call (f := 35) rfl ?_ rfl (rwidth_at _ _ ?_ hlen) (fun _ _ h => h) ?_ ?_ ?_; (focus kernel_rfl))
        | (refine AWL.callV (f := 36) rfl rfl rfl rfl ?_ (Nat.le_of_ble_eq_true rfl) rfl (rneed_ok _) ?_; (focus kernel_rfl))
        | (refine AWL.call (f := 36) rfl rfl rfl ?_ rfl (Nat.le_of_ble_eq_true rfl) rfl (rneed_ok _) ?_; (focus kernel_rfl))
        | (refine CWr.call (f := 36) rfl ?_ rfl (rneed_ok _) (fun _ _ h => h) ?_ ?_ ?_; (focus kernel_rfl))
        | fail) <;> (try ((first | show AWL _ _ _ _ _ | show AW _ _ _ _ | show FW _ _ _ _ _ _ _ _ _ _ | show CW _ _ _ _ _ _ _ _ _ _ _ _ | (rintro _ _ ⟨rfl, rfl⟩; (try refine And.intro rfl ?_))); (try (conv => arg -1; simp (disch := omega) only [NSX, Nat.reduceBEq, Nat.reduceAdd, Nat.reduceMul, Int.reduceToNat, Nat.reduceSub, TY, slx, take16, drop16, dz, nums_length, S31, List.length_append, vecC_app1])))))
      | ((first | refine AWL.guard2 rfl rfl rfl rfl rfl rfl ?_ ?_ | refine CW.guard2 rfl rfl rfl rfl rfl rfl rfl rfl ?_ ?_) <;> (intro hc; (try simp only [Bool.not_true, Bool.not_false] at hc); first | (cases hc; done) | ((try simp only [hc]); (try simp only [beq_iff_eq, bne_iff_ne, decide_eq_true_eq, decide_eq_false_iff_not, beq_eq_false_iff_ne, bne_eq_false_iff_eq, ne_eq, Bool.not_eq_true, Bool.not_eq_false, Bool.not_eq_eq_eq_not, Bool.not_true, Bool.not_false, Decidable.not_not, Int.not_lt, Int.not_le] at hc); (try (exfalso; omega)); (try (guard_hyp hc : True; clear hc)))))
      | (refine AWL.guard2 rfl rfl rfl rfl rfl rfl (fun hc => ?_) ?_; (cases hc; done))
      | ((first | ((show AW _ (.region _ _ true) _ _); refine AW.calm false [] [] hmix (by (repeat' (first | exact panOk_end | exact panOk_endM | refine panOk_then ?_ | refine panOk_block ?_ | refine QEq.pan (by assumption) ?_))) ?_ rfl ?_; (focus (as_aux_lemma => kernel_rfl))) | refine AWL.guardU rfl rfl rfl rfl rfl rfl ?_ | refine CW.guardU rfl rfl rfl rfl rfl rfl rfl rfl ?_); (try (conv => arg -1; simp (disch := omega) only [NSX, Nat.reduceBEq, Nat.reduceAdd, Nat.reduceMul, Int.reduceToNat, Nat.reduceSub, TY, slx, take16, drop16, dz, nums_length, S31, List.length_append, vecC_app1])))
      | refine CW.tail rfl ?_
      | (refine AW.cond rfl (fun hc => ?_) (fun hc => ?_) <;> first | (cases hc; done) | ((try simp only [beq_iff_eq, bne_iff_ne, decide_eq_true_eq, decide_eq_false_iff_not, beq_eq_false_iff_ne, bne_eq_false_iff_eq, ne_eq, Bool.not_eq_true, Bool.not_eq_false, Bool.not_eq_eq_eq_not, Bool.not_true, Bool.not_false, Decidable.not_not, Int.not_lt, Int.not_le] at hc); (try (exfalso; omega)); (try (guard_hyp hc : True; clear hc))))
      | ((refine EndQ.mk rfl rfl rfl ?_ ?_ ?_; (focus (first | exact Or.inl rfl | exact Or.inr rfl))) <;> (try simp (disch := omega) only [NSX, Nat.reduceBEq, Nat.reduceAdd, Nat.reduceMul, Int.reduceToNat, Nat.reduceSub, TY, slx, take16, drop16, dz, nums_length, S31, List.length_append, vecC_app1]))
      | (focus ((first | exact trivial | omega | (refine And.intro (by kernel_rfl) (And.intro ⟨_, (by first | exact nums_ints _ _ | rfl), (by first | exact nums_ints _ _ | rfl)⟩ (And.intro ?_ ?_)) <;> (first | rfl | assumption | (simp only [nums_length]; omega) | omega)) | (refine And.intro ?_ (And.intro ?_ ?_); (focus kernel_rfl); (focus kernel_rfl); (focus kernel_rfl)) | ((show newKs _ _ _ = true); kernel_rfl) | ((show FitV _ _ _ _ _ _); (repeat' (first | exact trivial | exact Or.inr (Or.inl rfl) | exact Or.inl rfl | exact Or.inr (Or.inr rfl) | refine And.intro ?_ ?_)); done) | assumption | ((first | refine ld_nums i3 _ _ ?_ | refine ld_nums i29 _ _ ?_ | refine ld_nums i5 _ _ ?_ | refine at_nums i3 _ _ ?_ | refine at_nums i29 _ _ ?_ | refine at_nums i5 _ _ ?_); first | assumption | omega | (simp only [List.length_append]; omega)) | exact join_len _ _ | exact join_bytes _ _ | exact (set_ok _ _ _ zero_ok.1 zero_ok.2).1 | exact (set_ok _ _ _ zero_ok.1 zero_ok.2).2 | exact zero_ok.1 | exact zero_ok.2 | exact hu0.1 | exact hu0.2 | exact hu1.1 | exact hu1.2 | (simp only [byVec, roomC]; omega) | (show _ ≤ _; omega) | (simp only [List.length_take, List.length_drop, List.length_append, List.length_cons, List.length_nil]; omega) | ((repeat' (first | exact trivial | exact rfl | exact Nat.le_of_ble_eq_true rfl | refine And.intro ?_ ?_ | fail)); done) | ((try simp (disch := omega) only [NSX, Nat.reduceBEq, Nat.reduceAdd, Nat.reduceMul, Int.reduceToNat, Nat.reduceSub, TY, slx, take16, drop16, dz, nums_length, S31, List.length_append, vecC_app1]); (repeat' (first | exact trivial | exact rfl | exact ⟨_, _, rfl⟩ | exact ⟨_, rfl⟩ | exact Nat.le_of_ble_eq_true rfl | exact Nat.zero_lt_succ _ | omega | (simp only [nums_length, toB_len] at *; omega) | refine And.intro ?_ ?_ | fail)); done)); done))
      | fail)
    all_goals first | exact ⟨trivial, trivial⟩ | exact ⟨rfl, trivial⟩ | exact ⟨rfl, rfl⟩ | exact ⟨trivial, rfl⟩ | (exfalso; omega) | trace_state
end Go.Proofs.Ytopdealfmajbhaa
