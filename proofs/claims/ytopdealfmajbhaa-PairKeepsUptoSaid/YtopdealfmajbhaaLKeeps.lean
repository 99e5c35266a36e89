/- PairKeeps. -/
import Derived.Test.YtopdealfmajbhaaV5
import Derived.Test.YtopdealfmajbhaaAwake
import Derived.Test.YtopdealfmajbhaaTake
import Derived.Test.YtopdealfmajbhaaCutl
import Derived.Test.YtopdealfmajbhaaPSets
import Derived.Test.YtopdealfmajbhaaAts
import Derived.Test.YtopdealfmajbhaaSame
import Derived.Test.YtopdealfmajbhaaVecs
namespace Go.Proofs.Ytopdealfmajbhaa
set_option linter.unusedSimpArgs false
set_option linter.unusedVariables false
open Go Go.Abs
attribute [local irreducible] AW AWL AC FW CW CWr IntKind.wrap

theorem row0 (n : Nat) : mkRow (zcells (Value.int .i64 0)) n = nums .i64 (List.replicate n 0) := by
  show mkRow [V.int .i64 0] n = _
  unfold mkRow nums
  rw [List.map_replicate]
  apply List.ext_getElem
  · simp
  · intro i h1 h2
    simp [Nat.mod_one]
theorem take_at (n m : Nat) (ts hs : List Int) (hn : n = ts.length) (hm : m = hs.length) (hh : u64s hs) (hlen : ts.length ≤ 1048576) : AC Try.prog 30 [.view n 1 (nums .i64 ts), .view m 1 (nums .u64 hs)]
    (fun r m => r = .tup [.ref 4 0 (takeR ts hs []).1.length 16, .int .i64 (takeR ts hs []).2] ∧ m = [(4, vecC (takeR ts hs []).1)]) := by
  subst hn; subst hm; exact take_ok ts hs hh hlen
theorem byInt (h : 3 < Try.prog.types.size) : (Try.prog.types[3]'h).bytes = 8 := by kernel_rfl
theorem nv_vecC (l : List (List Int)) : ∀ v ∈ vecC l, Go.Abs.noView v := by
  induction l with
  | nil => intro v hv; cases hv
  | cons x l ih =>
    intro v hv
    rw [vecC] at hv
    rcases List.mem_append.1 hv with hv | hv
    · exact nv_nums _ _ v hv
    · exact ih v hv
/-- a row of n numbers of which k are told -/
def tyS (n k : Nat) : List Int := List.replicate k 126 ++ List.replicate (n - k) 0
theorem tyS_len {n k : Nat} (h : k ≤ n) : (tyS n k).length = n := by simp [tyS]; omega
theorem tyS_set {n k : Nat} (h : k < n) : setI (tyS n k) k 126 = tyS n (k + 1) := by
  unfold setI tyS
  rw [List.take_append_of_le_length (by simp), List.take_of_length_le (by simp), List.drop_append, List.drop_of_length_le (by simp), List.nil_append, List.length_replicate, show k + 1 - k = 1 from by omega, List.drop_replicate, List.replicate_succ', show n - k - 1 = n - (k + 1) from by omega]
theorem tyS_all (n : Nat) : tyS n n = List.replicate n 126 := by simp [tyS]
/-- values of 64 bits -/
def wide (hs : List Int) : List (List Int) := hs.map fun h => join h 0
theorem wide_vecs (hs : List Int) : vecs (wide hs) := by
  intro v hv
  obtain ⟨h, _, rfl⟩ := List.mem_map.1 hv
  exact ⟨join_len _ _, join_bytes _ _⟩
theorem lo_join {x : Int} (h : 0 ≤ x ∧ x < 2 ^ 64) (y : Int) : lo (join x y) = x := by
  unfold lo join
  rw [List.take_append_of_le_length (by rw [toB_len]; exact Nat.le_refl _), List.take_of_length_le (by rw [toB_len]; exact Nat.le_refl _), le_toB]
  exact Int.emod_eq_of_lt h.1 h.2
theorem putL_wide {hs : List Int} (h : u64s hs) : putL (List.replicate hs.length 126) (wide hs) = hs := by
  induction hs with
  | nil => rfl
  | cons x hs ih =>
    rw [List.length_cons, List.replicate_succ]
    show putL (126 :: List.replicate hs.length 126) (join x 0 :: wide hs) = x :: hs
    rw [putL, ih (fun y hy => h y (List.mem_cons_of_mem _ hy))]
    simp only [put1, Int.reduceEq, ↓reduceIte, lo_join (h x (List.mem_cons_self ..)), List.singleton_append]
theorem cutL_wide {hs : List Int} (h : u64s hs) : cutL (List.replicate hs.length 126) (wide hs) = wide hs := by
  induction hs with
  | nil => rfl
  | cons x hs ih =>
    rw [List.length_cons, List.replicate_succ]
    show cutL (126 :: List.replicate hs.length 126) (join x 0 :: wide hs) = join x 0 :: wide hs
    rw [cutL, ih (fun y hy => h y (List.mem_cons_of_mem _ hy))]
    simp only [cut1, Int.reduceEq, ↓reduceIte, lo_join (h x (List.mem_cons_self ..))]
theorem okTs_wide (n : Nat) : okTs (List.replicate n 126) = true := by
  unfold okTs; rw [List.all_eq_true]; intro t ht; rw [List.eq_of_mem_replicate ht]; decide
def T1 (hs v ts : List Int) (k : Int) : St := { n := 199, slots := [(0, .view hs.length 1 (nums .u64 hs)), (3, .ptr 3 0), (4, .bool false), (5, .ref 5 0 (hs.length + 2) 1), (6, .ref 6 0 hs.length 1), (7, .int .i64 k)], mem := [(3, ⟨true, nums .u8 v⟩), (5, ⟨true, nums .u64 (hs ++ [81, 82])⟩), (6, ⟨true, nums .i64 ts⟩)] }
def T2 (hs v : List Int) (A : List V) (B : List (List Int)) (X : List Int) (i : Int) : St := { n := 199, slots := [(0, .view hs.length 1 (nums .u64 hs)), (3, .ptr 3 0), (4, .bool false), (8, .ref 8 0 hs.length 16), (10, .ref 10 0 hs.length 16), (12, .ref 12 0 8 1), (13, .ref 13 0 8 1), (14, .ref 14 0 hs.length 1), (16, .ref 16 0 hs.length 1), (18, .int .i64 i)], mem := [(3, ⟨true, nums .u8 v⟩), (8, ⟨true, A⟩), (10, ⟨true, vecC B⟩), (12, ⟨true, nums .u64 (all v 16)⟩), (13, ⟨true, nums .u64 (all v 16)⟩), (14, ⟨true, nums .u64 X⟩), (16, ⟨true, nums .u64 hs⟩)] }
def T3 (hs v : List Int) (B : List (List Int)) (X C : List Int) (i : Int) : St := { n := 199, slots := [(0, .view hs.length 1 (nums .u64 hs)), (3, .ptr 3 0), (4, .bool false), (10, .ref 10 0 hs.length 16), (12, .ref 12 0 8 1), (13, .ref 13 0 8 1), (14, .ref 14 0 hs.length 1), (16, .ref 16 0 hs.length 1), (19, .int .i64 i)], mem := [(3, ⟨true, nums .u8 v⟩), (10, ⟨true, vecC B⟩), (12, ⟨true, nums .u64 C⟩), (13, ⟨true, nums .u64 (all v 16)⟩), (14, ⟨true, nums .u64 X⟩), (16, ⟨true, nums .u64 hs⟩)] }
set_option maxRecDepth 8000 in
set_option maxHeartbeats 25600000 in
theorem pairKeeps_ok (hs v : List Int) (hh : u64s hs) (hv1 : v.length = 16) (hv2 : bytes v) (hlen : hs.length ≤ 1048576) :
    AC Try.prog 9 [.view hs.length 1 (nums .u64 hs), .fagg (nums .u8 v)] (fun r m => r = .bool true ∧ m = []) := by
  have hbv := wide_vecs hs
  have hbl : (wide hs).length = hs.length := by simp [wide]
  have hp := putL_wide hh
  have hT2 := put_yes (List.replicate hs.length 126) (wide hs) (okTs_wide _) (by rw [hbl, List.length_replicate])
  have hT1 := take_back (List.replicate hs.length 126) (wide hs) (okTs_wide _) (by rw [hbl, List.length_replicate]) hbv
  rw [cutL_wide hh, hp] at hT1
  rw [hp] at hT2
  have hty := tyS_all hs.length
  have hTl : (List.replicate hs.length (126 : Int)).length = hs.length := List.length_replicate
  have hTlen : (List.replicate hs.length (126 : Int)).length ≤ 1048576 := by omega
  have hblong : (wide hs).length ≤ 1048576 := by omega
  have hwat : hs.length ≠ 0 → (wide hs).getD 0 [] = join (hs.getD 0 0) 0 := by
    cases hs with
    | nil => intro h; exact absurd rfl h
    | cons x l => intro _; rfl
  generalize wide hs = B at hbv hbl hT1 hT2 hblong hwat
  generalize List.replicate hs.length (126 : Int) = T at hTl hTlen hT1 hT2 hty
  have hlong : hs.length ≤ 1000000000000000 := by omega
  have hX : List.take hs.length (hs ++ [81, 82]) = hs := by rw [List.take_append_of_le_length (Nat.le_refl _), List.take_length]
  have hX81 : (hs ++ [81, 82]).getD hs.length 0 = 81 := by simp
  have hc8 : ((8 : Nat) : Int) = 8 := rfl
  have h8 : (all v 16).length = 8 := by simp [all, lanes]
  have hcb := vecC_len hbv
  have hax := all_nonneg hv2 16
  have hof16 := of_at 8 16 (all v 16) h8.symm hax (by omega)
  rw [of_all hv1 hv2 (by decide)] at hof16
  have hof64 : True := trivial
  have htake := take_at hs.length hs.length T hs hTl.symm rfl hh hTlen
  rw [hT1] at htake
  have hput := put_at hs.length hs.length T B hTl.symm hbl.symm hbv hTlen
  rw [hT2] at hput
  have hsame := same_at hs.length hs.length hs hs rfl rfl hlong
  have hvecs := vecs_at hs.length hs.length B B hbl.symm hbl.symm hbv hbv hblong
  simp only [hbl] at htake hput
  have hTt : List.take hs.length T = T := List.take_of_length_le (by omega)
  have hHt : List.take hs.length hs = hs := List.take_length
  have hAt : List.take 8 (all v 16) = all v 16 := List.take_of_length_le (by omega)
  have hCt : List.take (hs.length * 16) (vecC B) = vecC B := List.take_of_length_le (by omega)
  have hY : (hs ++ [81, 82]).length = hs.length + 2 := by simp
  refine AC.enter Try.func9 rfl (Nat.le_of_ble_eq_true rfl) ?_
  simp only [Try.f9]
  have hchk : True := by simp only [TY, slx, take16, drop16, dz, nums_length, T1, T2, T3, row0, hv1, hY]
  repeat' (first
    | (refine AWL.deadAt 150 148 14 9014 rfl rfl rfl ?_; unfold St.dead; (try (conv => arg -1; simp (disch := omega) only [NSX, Nat.reduceBEq, Nat.reduceAdd, Nat.reduceMul, Int.reduceToNat, Nat.reduceSub, TY, slx, take16, drop16, dz, nums_length, T1, T2, T3, row0, hv1, hY])))
    | (refine AWL.deadAt 153 151 12 9012 rfl rfl rfl ?_; unfold St.dead; (try (conv => arg -1; simp (disch := omega) only [NSX, Nat.reduceBEq, Nat.reduceAdd, Nat.reduceMul, Int.reduceToNat, Nat.reduceSub, TY, slx, take16, drop16, dz, nums_length, T1, T2, T3, row0, hv1, hY])))
    | (refine AWL.opN (sl := SL) rfl rfl rfl trivial ?_; (try (conv => arg -1; simp (disch := omega) only [NSX, Nat.reduceBEq, Nat.reduceAdd, Nat.reduceMul, Int.reduceToNat, Nat.reduceSub, TY, slx, take16, drop16, dz, nums_length, T1, T2, T3, row0, hv1, hY])))
    | (refine AW.seqQ ?_; intro Qn hQn)
    | (refine AW.blockQ ?_; intro Qn hQn)
    | refine AW.region ?_
    | ((first | refine AW.skip ?_ | refine AW.ret ?_ | refine AW.exit ?_ | refine AWL.nil ?_ | refine CW.nil ?_); (repeat (first | refine QEq.mp (by assumption) ?_ | simp only [thenQ, Go.Abs.blockQ, ↓reduceIte, Nat.reduceEqDiff])))
    | refine FW.nil ?_
    | refine FW.pass rfl rfl ?_
    | refine FW.go rfl ?_
    | refine CW.skip rfl rfl ?_
    | refine CW.step rfl rfl rfl rfl rfl ?_
    | ((first
      | (refine AWL.boxF (t := 25) rfl rfl rfl rfl rfl ?_)
      | (refine AWL.allocF (t := 25) rfl rfl rfl rfl rfl rfl ?_)
      | (refine CWr.allocF (t := 25) rfl rfl rfl ?_ ?_)
      | (refine AWL.op (sl := SL) rfl rfl ?_ ?_)
      | (refine FW.float rfl rfl rfl rfl rfl ?_)
      | (refine CWr.op rfl ?_ ?_ ?_)
      | (refine CWr.assign rfl ?_ ?_)
      | (refine CWr.alloc rfl rfl rfl rfl ?_)
      | (refine CWr.build rfl rfl rfl rfl ?_ rfl rfl rfl ?_)
      | (refine AWL.callA (f := 30) rfl rfl rfl ?_ (Nat.le_of_ble_eq_true rfl) ?_ (htake) rfl ?_; (focus kernel_rfl); (focus (simp (disch := omega) only [VW, List.toList_toArray, List.map_cons, List.map_nil, NSX, Nat.reduceBEq, Nat.reduceAdd, Nat.reduceMul, Int.reduceToNat, Nat.reduceSub, TY, slx, take16, drop16, dz, nums_length, T1, T2, T3, row0, hv1, hY]; (try exact rfl); done)))
      | (refine CWr.callA (f := 30) rfl ?_ ?_ (htake) rfl (fun _ _ h => h) rfl ⟨nvsB_spec rfl, (by repeat' (first | exact nvm_nil | refine nvm_cons ?_ ?_ | exact nv_nums _ _ | exact nv_all rfl | exact nv_vecC _))⟩ ?_ ?_ ?_; (focus kernel_rfl); (focus (simp (disch := omega) only [VW, List.toList_toArray, List.map_cons, List.map_nil, NSX, Nat.reduceBEq, Nat.reduceAdd, Nat.reduceMul, Int.reduceToNat, Nat.reduceSub, TY, slx, take16, drop16, dz, nums_length, T1, T2, T3, row0, hv1, hY]; (try exact rfl); done)))
      | (refine AWL.callA (f := 28) rfl rfl rfl ?_ (Nat.le_of_ble_eq_true rfl) ?_ (hput) rfl ?_; (focus kernel_rfl); (focus (simp (disch := omega) only [VW, List.toList_toArray, List.map_cons, List.map_nil, NSX, Nat.reduceBEq, Nat.reduceAdd, Nat.reduceMul, Int.reduceToNat, Nat.reduceSub, TY, slx, take16, drop16, dz, nums_length, T1, T2, T3, row0, hv1, hY]; (try exact rfl); done)))
      | (refine CWr.callA (f := 28) rfl ?_ ?_ (hput) rfl (fun _ _ h => h) rfl ⟨nvsB_spec rfl, (by repeat' (first | exact nvm_nil | refine nvm_cons ?_ ?_ | exact nv_nums _ _ | exact nv_all rfl | exact nv_vecC _))⟩ ?_ ?_ ?_; (focus kernel_rfl); (focus (simp (disch := omega) only [VW, List.toList_toArray, List.map_cons, List.map_nil, NSX, Nat.reduceBEq, Nat.reduceAdd, Nat.reduceMul, Int.reduceToNat, Nat.reduceSub, TY, slx, take16, drop16, dz, nums_length, T1, T2, T3, row0, hv1, hY]; (try exact rfl); done)))
      | (refine AWL.callA (f := 24) rfl rfl rfl ?_ (Nat.le_of_ble_eq_true rfl) ?_ (hsame) rfl ?_; (focus kernel_rfl); (focus (simp (disch := omega) only [VW, List.toList_toArray, List.map_cons, List.map_nil, NSX, Nat.reduceBEq, Nat.reduceAdd, Nat.reduceMul, Int.reduceToNat, Nat.reduceSub, TY, slx, take16, drop16, dz, nums_length, T1, T2, T3, row0, hv1, hY]; (try exact rfl); done)))
      | (refine CWr.callA (f := 24) rfl ?_ ?_ (hsame) rfl (fun _ _ h => h) rfl ⟨nvsB_spec rfl, (by repeat' (first | exact nvm_nil | refine nvm_cons ?_ ?_ | exact nv_nums _ _ | exact nv_all rfl | exact nv_vecC _))⟩ ?_ ?_ ?_; (focus kernel_rfl); (focus (simp (disch := omega) only [VW, List.toList_toArray, List.map_cons, List.map_nil, NSX, Nat.reduceBEq, Nat.reduceAdd, Nat.reduceMul, Int.reduceToNat, Nat.reduceSub, TY, slx, take16, drop16, dz, nums_length, T1, T2, T3, row0, hv1, hY]; (try exact rfl); done)))
      | (refine AWL.callA (f := 32) rfl rfl rfl ?_ (Nat.le_of_ble_eq_true rfl) ?_ (hvecs) rfl ?_; (focus kernel_rfl); (focus (simp (disch := omega) only [VW, List.toList_toArray, List.map_cons, List.map_nil, NSX, Nat.reduceBEq, Nat.reduceAdd, Nat.reduceMul, Int.reduceToNat, Nat.reduceSub, TY, slx, take16, drop16, dz, nums_length, T1, T2, T3, row0, hv1, hY]; (try exact rfl); done)))
      | (refine CWr.callA (f := 32) rfl ?_ ?_ (hvecs) rfl (fun _ _ h => h) rfl ⟨nvsB_spec rfl, (by repeat' (first | exact nvm_nil | refine nvm_cons ?_ ?_ | exact nv_nums _ _ | exact nv_all rfl | exact nv_vecC _))⟩ ?_ ?_ ?_; (focus kernel_rfl); (focus (simp (disch := omega) only [VW, List.toList_toArray, List.map_cons, List.map_nil, NSX, Nat.reduceBEq, Nat.reduceAdd, Nat.reduceMul, Int.reduceToNat, Nat.reduceSub, TY, slx, take16, drop16, dz, nums_length, T1, T2, T3, row0, hv1, hY]; (try exact rfl); done)))
      | ((show AWL _ _ ({ dst := _, op := _, type := _, pos := _, after := _, guard := none } :: _) _ _); refine AWL.frzA rfl rfl ?_)
      | (refine AWL.callV (f := 10) rfl rfl rfl rfl ?_ (Nat.le_of_ble_eq_true rfl) rfl (awake_ok) ?_; (focus kernel_rfl))
      | (refine AWL.call (f := 10) rfl rfl rfl ?_ rfl (Nat.le_of_ble_eq_true rfl) rfl (awake_ok) ?_; (focus kernel_rfl))
      | (refine CWr.call (f := 10) rfl ?_ rfl (awake_ok) (fun _ _ h => h) ?_ ?_ ?_; (focus kernel_rfl))
      | (refine AWL.callV (f := 14) rfl rfl rfl rfl ?_ (Nat.le_of_ble_eq_true rfl) rfl (all_ok _ hv1 hv2 _) ?_; (focus kernel_rfl))
      | (refine AWL.call (f := 14) rfl rfl rfl ?_ rfl (Nat.le_of_ble_eq_true rfl) rfl (all_ok _ hv1 hv2 _) ?_; (focus kernel_rfl))
      | (refine CWr.call (f := 14) rfl ?_ rfl (all_ok _ hv1 hv2 _) (fun _ _ h => h) ?_ ?_ ?_; (focus kernel_rfl))
      | (refine AWL.callV (f := 11) rfl rfl rfl rfl ?_ (Nat.le_of_ble_eq_true rfl) rfl (hof16) ?_; (focus kernel_rfl))
      | (refine AWL.call (f := 11) rfl rfl rfl ?_ rfl (Nat.le_of_ble_eq_true rfl) rfl (hof16) ?_; (focus kernel_rfl))
      | (refine CWr.call (f := 11) rfl ?_ rfl (hof16) (fun _ _ h => h) ?_ ?_ ?_; (focus kernel_rfl))
      | (refine AWL.callV (f := 11) rfl rfl rfl rfl ?_ (Nat.le_of_ble_eq_true rfl) rfl (hof64) ?_; (focus kernel_rfl))
      | (refine AWL.call (f := 11) rfl rfl rfl ?_ rfl (Nat.le_of_ble_eq_true rfl) rfl (hof64) ?_; (focus kernel_rfl))
      | (refine CWr.call (f := 11) rfl ?_ rfl (hof64) (fun _ _ h => h) ?_ ?_ ?_; (focus kernel_rfl))
      | fail) <;> (try ((first | show AWL _ _ _ _ _ | show AW _ _ _ _ | show FW _ _ _ _ _ _ _ _ _ _ | show CW _ _ _ _ _ _ _ _ _ _ _ _ | (rintro _ _ ⟨rfl, rfl⟩; (try refine And.intro rfl ?_) ; (try refine And.intro ⟨nvsB_spec rfl, (by repeat' (first | exact nvm_nil | refine nvm_cons ?_ ?_ | exact nv_nums _ _ | exact nv_all rfl | exact nv_vecC _))⟩ ?_))); (try (conv => arg -1; simp (disch := omega) only [NSX, Nat.reduceBEq, Nat.reduceAdd, Nat.reduceMul, Int.reduceToNat, Nat.reduceSub, TY, slx, take16, drop16, dz, nums_length, T1, T2, T3, row0, hv1, hY])))))
    | ((first | refine AWL.guard2 rfl rfl rfl rfl rfl rfl ?_ ?_ | refine CW.guard2 rfl rfl rfl rfl rfl rfl rfl rfl ?_ ?_) <;> (intro hc; (try simp only [Bool.not_true, Bool.not_false] at hc); first | (cases hc; done) | ((try simp only [hc]); (try simp only [beq_iff_eq, bne_iff_ne, decide_eq_true_eq, decide_eq_false_iff_not, beq_eq_false_iff_ne, bne_eq_false_iff_eq, ne_eq, Bool.not_eq_true, Bool.not_eq_false, Bool.not_eq_eq_eq_not, Bool.not_true, Bool.not_false, Decidable.not_not, Int.not_lt, Int.not_le] at hc); (try (exfalso; omega)); (try (guard_hyp hc : True; clear hc)))) <;> (try (first | (with_reducible show AWL _ _ _ _ (St.put _ _ _)) | (with_reducible show CW _ _ _ _ _ _ _ _ _ _ _ (St.put _ _ _))); (try (conv => arg -1; simp (disch := omega) only [NSX, Nat.reduceBEq, Nat.reduceAdd, Nat.reduceMul, Int.reduceToNat, Nat.reduceSub, TY, slx, take16, drop16, dz, nums_length, T1, T2, T3, row0, hv1, hY]))))
    | (refine AWL.guard2 rfl rfl rfl rfl rfl rfl (fun hc => ?_) ?_; (cases hc; done))
    | ((first | ((show AW _ (.region _ _ true) _ _); refine AW.calm false [] [194] (id := 28) hmix (by (repeat' (first | exact panOk_end | exact panOk_endM | refine panOk_then ?_ | refine panOk_block ?_ | refine QEq.pan (by assumption) ?_))) ?_ rfl ?_; (focus (as_aux_lemma => kernel_rfl))) | ((show AW _ (.region _ _ true) _ _); refine AW.calm false [] [] hmix (by (repeat' (first | exact panOk_end | exact panOk_endM | refine panOk_then ?_ | refine panOk_block ?_ | refine QEq.pan (by assumption) ?_))) ?_ rfl ?_; (focus (as_aux_lemma => kernel_rfl))) | refine AWL.guardU rfl rfl rfl rfl rfl rfl ?_ | refine CW.guardU rfl rfl rfl rfl rfl rfl rfl rfl ?_); (try (conv => arg -1; simp (disch := omega) only [NSX, Nat.reduceBEq, Nat.reduceAdd, Nat.reduceMul, Int.reduceToNat, Nat.reduceSub, TY, slx, take16, drop16, dz, nums_length, T1, T2, T3, row0, hv1, hY])))
    | refine CW.tail rfl ?_
    | (refine AW.cond rfl (fun hc => ?_) (fun hc => ?_) <;> first | (cases hc; done) | ((try simp only [beq_iff_eq, bne_iff_ne, decide_eq_true_eq, decide_eq_false_iff_not, beq_eq_false_iff_ne, bne_eq_false_iff_eq, ne_eq, Bool.not_eq_true, Bool.not_eq_false, Bool.not_eq_eq_eq_not, Bool.not_true, Bool.not_false, Decidable.not_not, Int.not_lt, Int.not_le] at hc); (try (exfalso; omega)); (try (guard_hyp hc : True; clear hc))))
    | ((refine EndQ.mk rfl rfl rfl ?_ ?_ ?_; (focus (first | exact Or.inl rfl | exact Or.inr rfl))) <;> (try simp (disch := omega) only [NSX, Nat.reduceBEq, Nat.reduceAdd, Nat.reduceMul, Int.reduceToNat, Nat.reduceSub, TY, slx, take16, drop16, dz, nums_length, T1, T2, T3, row0, hv1, hY]))
    | (focus ((first | exact trivial | omega | (refine And.intro (by kernel_rfl) (And.intro ⟨_, (by first | exact nums_ints _ _ | rfl), (by first | exact nums_ints _ _ | rfl)⟩ (And.intro ?_ ?_)) <;> (first | rfl | assumption | (simp only [nums_length]; omega) | omega)) | (refine And.intro ?_ (And.intro ?_ ?_); (focus kernel_rfl); (focus kernel_rfl); (focus kernel_rfl)) | ((show newKs _ _ _ = true); kernel_rfl) | ((show FitV _ _ _ _ _ _); (repeat' (first | exact trivial | exact Or.inr (Or.inl rfl) | exact Or.inl rfl | exact Or.inr (Or.inr rfl) | refine And.intro ?_ ?_)); done) | assumption | ((first | refine ld_nums i3 _ _ ?_ | refine ld_nums i29 _ _ ?_ | refine ld_nums i5 _ _ ?_ | refine at_nums i3 _ _ ?_ | refine at_nums i29 _ _ ?_ | refine at_nums i5 _ _ ?_); first | assumption | omega | (simp only [List.length_append]; omega)) | (simp only [byInt, makeC]; omega) | exact hbl.symm | exact hTl.symm | exact hh | exact hTlen | exact hlong | (simp only [List.length_replicate, List.length_append, List.length_cons, List.length_nil]; omega) | (show _ ≤ _; omega) | (simp only [List.length_take, List.length_drop, List.length_append, List.length_cons, List.length_nil]; omega) | ((repeat' (first | exact trivial | exact rfl | exact Nat.le_of_ble_eq_true rfl | refine And.intro ?_ ?_ | fail)); done) | ((try simp (disch := omega) only [NSX, Nat.reduceBEq, Nat.reduceAdd, Nat.reduceMul, Int.reduceToNat, Nat.reduceSub, TY, slx, take16, drop16, dz, nums_length, T1, T2, T3, row0, hv1, hY]); (repeat' (first | exact trivial | exact rfl | exact ⟨_, _, rfl⟩ | exact ⟨_, rfl⟩ | exact Nat.le_of_ble_eq_true rfl | exact Nat.zero_lt_succ _ | omega | (simp only [nums_length, toB_len] at *; omega) | refine And.intro ?_ ?_ | fail)); done)); done))
    | fail)
  refine AW.loop [0, 3, 4, 5, 6, 7] [3, 5, 6] (fun m st => ∃ k : Nat, st = T1 hs v (tyS hs.length k) k ∧ k ≤ hs.length ∧ m = hs.length - k) ?_ ?_
  · exact ⟨_, 0, by first | rfl | (simp only [tyS, List.replicate_zero, List.nil_append, Nat.sub_zero]; rfl), Nat.zero_le _, rfl⟩
  rintro m st ⟨k, rfl, hk, rfl⟩
  have e5 : IntKind.i64.wrap ((k : Int) + 1) = ((k + 1 : Nat) : Int) := wrap64_id _ (by omega) (by omega)
  have htl := tyS_len hk
  by_cases hkn : k < hs.length
  · have hts := tyS_set hkn
    have hchk : True := by simp only [TY, slx, take16, drop16, dz, nums_length, T1, T2, T3, row0, e5, htl, hts]
    repeat' (first
      | (refine AWL.deadAt 150 148 14 9014 rfl rfl rfl ?_; unfold St.dead; (try (conv => arg -1; simp (disch := omega) only [NSX, Nat.reduceBEq, Nat.reduceAdd, Nat.reduceMul, Int.reduceToNat, Nat.reduceSub, TY, slx, take16, drop16, dz, nums_length, T1, T2, T3, row0, e5, htl, hts])))
      | (refine AWL.deadAt 153 151 12 9012 rfl rfl rfl ?_; unfold St.dead; (try (conv => arg -1; simp (disch := omega) only [NSX, Nat.reduceBEq, Nat.reduceAdd, Nat.reduceMul, Int.reduceToNat, Nat.reduceSub, TY, slx, take16, drop16, dz, nums_length, T1, T2, T3, row0, e5, htl, hts])))
      | (refine AWL.opN (sl := SL) rfl rfl rfl trivial ?_; (try (conv => arg -1; simp (disch := omega) only [NSX, Nat.reduceBEq, Nat.reduceAdd, Nat.reduceMul, Int.reduceToNat, Nat.reduceSub, TY, slx, take16, drop16, dz, nums_length, T1, T2, T3, row0, e5, htl, hts])))
      | (refine AW.seqQ ?_; intro Qn hQn)
      | (refine AW.blockQ ?_; intro Qn hQn)
      | refine AW.region ?_
      | ((first | refine AW.skip ?_ | refine AW.ret ?_ | refine AW.exit ?_ | refine AWL.nil ?_ | refine CW.nil ?_); (repeat (first | refine QEq.mp (by assumption) ?_ | simp only [thenQ, Go.Abs.blockQ, ↓reduceIte, Nat.reduceEqDiff])))
      | refine FW.nil ?_
      | refine FW.pass rfl rfl ?_
      | refine FW.go rfl ?_
      | refine CW.skip rfl rfl ?_
      | refine CW.step rfl rfl rfl rfl rfl ?_
      | ((first
        | (refine AWL.boxF (t := 25) rfl rfl rfl rfl rfl ?_)
        | (refine AWL.allocF (t := 25) rfl rfl rfl rfl rfl rfl ?_)
        | (refine CWr.allocF (t := 25) rfl rfl rfl ?_ ?_)
        | (refine AWL.op (sl := SL) rfl rfl ?_ ?_)
        | (refine FW.float rfl rfl rfl rfl rfl ?_)
        | (refine CWr.op rfl ?_ ?_ ?_)
        | (refine CWr.assign rfl ?_ ?_)
        | (refine CWr.alloc rfl rfl rfl rfl ?_)
        | (refine CWr.build rfl rfl rfl rfl ?_ rfl rfl rfl ?_)
        | (refine AWL.callA (f := 30) rfl rfl rfl ?_ (Nat.le_of_ble_eq_true rfl) ?_ (htake) rfl ?_; (focus kernel_rfl); (focus (simp (disch := omega) only [VW, List.toList_toArray, List.map_cons, List.map_nil, NSX, Nat.reduceBEq, Nat.reduceAdd, Nat.reduceMul, Int.reduceToNat, Nat.reduceSub, TY, slx, take16, drop16, dz, nums_length, T1, T2, T3, row0, e5, htl, hts]; (try exact rfl); done)))
        | (refine CWr.callA (f := 30) rfl ?_ ?_ (htake) rfl (fun _ _ h => h) rfl ⟨nvsB_spec rfl, (by repeat' (first | exact nvm_nil | refine nvm_cons ?_ ?_ | exact nv_nums _ _ | exact nv_all rfl | exact nv_vecC _))⟩ ?_ ?_ ?_; (focus kernel_rfl); (focus (simp (disch := omega) only [VW, List.toList_toArray, List.map_cons, List.map_nil, NSX, Nat.reduceBEq, Nat.reduceAdd, Nat.reduceMul, Int.reduceToNat, Nat.reduceSub, TY, slx, take16, drop16, dz, nums_length, T1, T2, T3, row0, e5, htl, hts]; (try exact rfl); done)))
        | (refine AWL.callA (f := 28) rfl rfl rfl ?_ (Nat.le_of_ble_eq_true rfl) ?_ (hput) rfl ?_; (focus kernel_rfl); (focus (simp (disch := omega) only [VW, List.toList_toArray, List.map_cons, List.map_nil, NSX, Nat.reduceBEq, Nat.reduceAdd, Nat.reduceMul, Int.reduceToNat, Nat.reduceSub, TY, slx, take16, drop16, dz, nums_length, T1, T2, T3, row0, e5, htl, hts]; (try exact rfl); done)))
        | (refine CWr.callA (f := 28) rfl ?_ ?_ (hput) rfl (fun _ _ h => h) rfl ⟨nvsB_spec rfl, (by repeat' (first | exact nvm_nil | refine nvm_cons ?_ ?_ | exact nv_nums _ _ | exact nv_all rfl | exact nv_vecC _))⟩ ?_ ?_ ?_; (focus kernel_rfl); (focus (simp (disch := omega) only [VW, List.toList_toArray, List.map_cons, List.map_nil, NSX, Nat.reduceBEq, Nat.reduceAdd, Nat.reduceMul, Int.reduceToNat, Nat.reduceSub, TY, slx, take16, drop16, dz, nums_length, T1, T2, T3, row0, e5, htl, hts]; (try exact rfl); done)))
        | (refine AWL.callA (f := 24) rfl rfl rfl ?_ (Nat.le_of_ble_eq_true rfl) ?_ (hsame) rfl ?_; (focus kernel_rfl); (focus (simp (disch := omega) only [VW, List.toList_toArray, List.map_cons, List.map_nil, NSX, Nat.reduceBEq, Nat.reduceAdd, Nat.reduceMul, Int.reduceToNat, Nat.reduceSub, TY, slx, take16, drop16, dz, nums_length, T1, T2, T3, row0, e5, htl, hts]; (try exact rfl); done)))
        | (refine CWr.callA (f := 24) rfl ?_ ?_ (hsame) rfl (fun _ _ h => h) rfl ⟨nvsB_spec rfl, (by repeat' (first | exact nvm_nil | refine nvm_cons ?_ ?_ | exact nv_nums _ _ | exact nv_all rfl | exact nv_vecC _))⟩ ?_ ?_ ?_; (focus kernel_rfl); (focus (simp (disch := omega) only [VW, List.toList_toArray, List.map_cons, List.map_nil, NSX, Nat.reduceBEq, Nat.reduceAdd, Nat.reduceMul, Int.reduceToNat, Nat.reduceSub, TY, slx, take16, drop16, dz, nums_length, T1, T2, T3, row0, e5, htl, hts]; (try exact rfl); done)))
        | (refine AWL.callA (f := 32) rfl rfl rfl ?_ (Nat.le_of_ble_eq_true rfl) ?_ (hvecs) rfl ?_; (focus kernel_rfl); (focus (simp (disch := omega) only [VW, List.toList_toArray, List.map_cons, List.map_nil, NSX, Nat.reduceBEq, Nat.reduceAdd, Nat.reduceMul, Int.reduceToNat, Nat.reduceSub, TY, slx, take16, drop16, dz, nums_length, T1, T2, T3, row0, e5, htl, hts]; (try exact rfl); done)))
        | (refine CWr.callA (f := 32) rfl ?_ ?_ (hvecs) rfl (fun _ _ h => h) rfl ⟨nvsB_spec rfl, (by repeat' (first | exact nvm_nil | refine nvm_cons ?_ ?_ | exact nv_nums _ _ | exact nv_all rfl | exact nv_vecC _))⟩ ?_ ?_ ?_; (focus kernel_rfl); (focus (simp (disch := omega) only [VW, List.toList_toArray, List.map_cons, List.map_nil, NSX, Nat.reduceBEq, Nat.reduceAdd, Nat.reduceMul, Int.reduceToNat, Nat.reduceSub, TY, slx, take16, drop16, dz, nums_length, T1, T2, T3, row0, e5, htl, hts]; (try exact rfl); done)))
        | ((show AWL _ _ ({ dst := _, op := _, type := _, pos := _, after := _, guard := none } :: _) _ _); refine AWL.frzA rfl rfl ?_)
        | (refine AWL.callV (f := 10) rfl rfl rfl rfl ?_ (Nat.le_of_ble_eq_true rfl) rfl (awake_ok) ?_; (focus kernel_rfl))
        | (refine AWL.call (f := 10) rfl rfl rfl ?_ rfl (Nat.le_of_ble_eq_true rfl) rfl (awake_ok) ?_; (focus kernel_rfl))
        | (refine CWr.call (f := 10) rfl ?_ rfl (awake_ok) (fun _ _ h => h) ?_ ?_ ?_; (focus kernel_rfl))
        | (refine AWL.callV (f := 14) rfl rfl rfl rfl ?_ (Nat.le_of_ble_eq_true rfl) rfl (all_ok _ hv1 hv2 _) ?_; (focus kernel_rfl))
        | (refine AWL.call (f := 14) rfl rfl rfl ?_ rfl (Nat.le_of_ble_eq_true rfl) rfl (all_ok _ hv1 hv2 _) ?_; (focus kernel_rfl))
        | (refine CWr.call (f := 14) rfl ?_ rfl (all_ok _ hv1 hv2 _) (fun _ _ h => h) ?_ ?_ ?_; (focus kernel_rfl))
        | (refine AWL.callV (f := 11) rfl rfl rfl rfl ?_ (Nat.le_of_ble_eq_true rfl) rfl (hof16) ?_; (focus kernel_rfl))
        | (refine AWL.call (f := 11) rfl rfl rfl ?_ rfl (Nat.le_of_ble_eq_true rfl) rfl (hof16) ?_; (focus kernel_rfl))
        | (refine CWr.call (f := 11) rfl ?_ rfl (hof16) (fun _ _ h => h) ?_ ?_ ?_; (focus kernel_rfl))
        | (refine AWL.callV (f := 11) rfl rfl rfl rfl ?_ (Nat.le_of_ble_eq_true rfl) rfl (hof64) ?_; (focus kernel_rfl))
        | (refine AWL.call (f := 11) rfl rfl rfl ?_ rfl (Nat.le_of_ble_eq_true rfl) rfl (hof64) ?_; (focus kernel_rfl))
        | (refine CWr.call (f := 11) rfl ?_ rfl (hof64) (fun _ _ h => h) ?_ ?_ ?_; (focus kernel_rfl))
        | fail) <;> (try ((first | show AWL _ _ _ _ _ | show AW _ _ _ _ | show FW _ _ _ _ _ _ _ _ _ _ | show CW _ _ _ _ _ _ _ _ _ _ _ _ | (rintro _ _ ⟨rfl, rfl⟩; (try refine And.intro rfl ?_) ; (try refine And.intro ⟨nvsB_spec rfl, (by repeat' (first | exact nvm_nil | refine nvm_cons ?_ ?_ | exact nv_nums _ _ | exact nv_all rfl | exact nv_vecC _))⟩ ?_))); (try (conv => arg -1; simp (disch := omega) only [NSX, Nat.reduceBEq, Nat.reduceAdd, Nat.reduceMul, Int.reduceToNat, Nat.reduceSub, TY, slx, take16, drop16, dz, nums_length, T1, T2, T3, row0, e5, htl, hts])))))
      | ((first | refine AWL.guard2 rfl rfl rfl rfl rfl rfl ?_ ?_ | refine CW.guard2 rfl rfl rfl rfl rfl rfl rfl rfl ?_ ?_) <;> (intro hc; (try simp only [Bool.not_true, Bool.not_false] at hc); first | (cases hc; done) | ((try simp only [hc]); (try simp only [beq_iff_eq, bne_iff_ne, decide_eq_true_eq, decide_eq_false_iff_not, beq_eq_false_iff_ne, bne_eq_false_iff_eq, ne_eq, Bool.not_eq_true, Bool.not_eq_false, Bool.not_eq_eq_eq_not, Bool.not_true, Bool.not_false, Decidable.not_not, Int.not_lt, Int.not_le] at hc); (try (exfalso; omega)); (try (guard_hyp hc : True; clear hc)))) <;> (try (first | (with_reducible show AWL _ _ _ _ (St.put _ _ _)) | (with_reducible show CW _ _ _ _ _ _ _ _ _ _ _ (St.put _ _ _))); (try (conv => arg -1; simp (disch := omega) only [NSX, Nat.reduceBEq, Nat.reduceAdd, Nat.reduceMul, Int.reduceToNat, Nat.reduceSub, TY, slx, take16, drop16, dz, nums_length, T1, T2, T3, row0, e5, htl, hts]))))
      | (refine AWL.guard2 rfl rfl rfl rfl rfl rfl (fun hc => ?_) ?_; (cases hc; done))
      | ((first | ((show AW _ (.region _ _ true) _ _); refine AW.calm false [] [194] (id := 28) hmix (by (repeat' (first | exact panOk_end | exact panOk_endM | refine panOk_then ?_ | refine panOk_block ?_ | refine QEq.pan (by assumption) ?_))) ?_ rfl ?_; (focus (as_aux_lemma => kernel_rfl))) | ((show AW _ (.region _ _ true) _ _); refine AW.calm false [] [] hmix (by (repeat' (first | exact panOk_end | exact panOk_endM | refine panOk_then ?_ | refine panOk_block ?_ | refine QEq.pan (by assumption) ?_))) ?_ rfl ?_; (focus (as_aux_lemma => kernel_rfl))) | refine AWL.guardU rfl rfl rfl rfl rfl rfl ?_ | refine CW.guardU rfl rfl rfl rfl rfl rfl rfl rfl ?_); (try (conv => arg -1; simp (disch := omega) only [NSX, Nat.reduceBEq, Nat.reduceAdd, Nat.reduceMul, Int.reduceToNat, Nat.reduceSub, TY, slx, take16, drop16, dz, nums_length, T1, T2, T3, row0, e5, htl, hts])))
      | refine CW.tail rfl ?_
      | (refine AW.cond rfl (fun hc => ?_) (fun hc => ?_) <;> first | (cases hc; done) | ((try simp only [beq_iff_eq, bne_iff_ne, decide_eq_true_eq, decide_eq_false_iff_not, beq_eq_false_iff_ne, bne_eq_false_iff_eq, ne_eq, Bool.not_eq_true, Bool.not_eq_false, Bool.not_eq_eq_eq_not, Bool.not_true, Bool.not_false, Decidable.not_not, Int.not_lt, Int.not_le] at hc); (try (exfalso; omega)); (try (guard_hyp hc : True; clear hc))))
      | ((refine EndQ.mk rfl rfl rfl ?_ ?_ ?_; (focus (first | exact Or.inl rfl | exact Or.inr rfl))) <;> (try simp (disch := omega) only [NSX, Nat.reduceBEq, Nat.reduceAdd, Nat.reduceMul, Int.reduceToNat, Nat.reduceSub, TY, slx, take16, drop16, dz, nums_length, T1, T2, T3, row0, e5, htl, hts]))
      | (focus ((first | exact trivial | omega | (refine And.intro (by kernel_rfl) (And.intro ⟨_, (by first | exact nums_ints _ _ | rfl), (by first | exact nums_ints _ _ | rfl)⟩ (And.intro ?_ ?_)) <;> (first | rfl | assumption | (simp only [nums_length]; omega) | omega)) | (refine And.intro ?_ (And.intro ?_ ?_); (focus kernel_rfl); (focus kernel_rfl); (focus kernel_rfl)) | ((show newKs _ _ _ = true); kernel_rfl) | ((show FitV _ _ _ _ _ _); (repeat' (first | exact trivial | exact Or.inr (Or.inl rfl) | exact Or.inl rfl | exact Or.inr (Or.inr rfl) | refine And.intro ?_ ?_)); done) | assumption | ((first | refine ld_nums i3 _ _ ?_ | refine ld_nums i29 _ _ ?_ | refine ld_nums i5 _ _ ?_ | refine at_nums i3 _ _ ?_ | refine at_nums i29 _ _ ?_ | refine at_nums i5 _ _ ?_); first | assumption | omega | (simp only [List.length_append]; omega)) | (simp only [byInt, makeC]; omega) | exact hbl.symm | exact hTl.symm | exact hh | exact hTlen | exact hlong | (simp only [List.length_replicate, List.length_append, List.length_cons, List.length_nil]; omega) | (show _ ≤ _; omega) | (simp only [List.length_take, List.length_drop, List.length_append, List.length_cons, List.length_nil]; omega) | ((repeat' (first | exact trivial | exact rfl | exact Nat.le_of_ble_eq_true rfl | refine And.intro ?_ ?_ | fail)); done) | ((try simp (disch := omega) only [NSX, Nat.reduceBEq, Nat.reduceAdd, Nat.reduceMul, Int.reduceToNat, Nat.reduceSub, TY, slx, take16, drop16, dz, nums_length, T1, T2, T3, row0, e5, htl, hts]); (repeat' (first | exact trivial | exact rfl | exact ⟨_, _, rfl⟩ | exact ⟨_, rfl⟩ | exact Nat.le_of_ble_eq_true rfl | exact Nat.zero_lt_succ _ | omega | (simp only [nums_length, toB_len] at *; omega) | refine And.intro ?_ ?_ | fail)); done)); done))
      | fail)
    all_goals try simp (disch := omega) only [NSX, Nat.reduceBEq, Nat.reduceAdd, Nat.reduceMul, Int.reduceToNat, Nat.reduceSub, TY, slx, take16, drop16, dz, nums_length, T1, T2, T3, row0, e5, htl, hts]
    all_goals first
      | exact ⟨hs.length - (k + 1), by omega, k + 1, rfl, by omega, rfl⟩
      | (exfalso; omega) | trace_state
  · obtain rfl : k = hs.length := by omega
    rw [hty]
    have hchk : True := by simp only [TY, slx, take16, drop16, dz, nums_length, T1, T2, T3, row0, hc8, hX, hTt, hHt, hCt, hTl, hT1, hT2, hbl, h8, hX81, hcb, hY, hv1, eq_self, decide_true, bne_self_eq_false, Bool.not_true]
    repeat' (first
      | (refine AWL.deadAt 150 148 14 9014 rfl rfl rfl ?_; unfold St.dead; (try (conv => arg -1; simp (disch := omega) only [NSX, Nat.reduceBEq, Nat.reduceAdd, Nat.reduceMul, Int.reduceToNat, Nat.reduceSub, TY, slx, take16, drop16, dz, nums_length, T1, T2, T3, row0, hc8, hX, hTt, hHt, hCt, hTl, hT1, hT2, hbl, h8, hX81, hcb, hY, hv1, eq_self, decide_true, bne_self_eq_false, Bool.not_true])))
      | (refine AWL.deadAt 153 151 12 9012 rfl rfl rfl ?_; unfold St.dead; (try (conv => arg -1; simp (disch := omega) only [NSX, Nat.reduceBEq, Nat.reduceAdd, Nat.reduceMul, Int.reduceToNat, Nat.reduceSub, TY, slx, take16, drop16, dz, nums_length, T1, T2, T3, row0, hc8, hX, hTt, hHt, hCt, hTl, hT1, hT2, hbl, h8, hX81, hcb, hY, hv1, eq_self, decide_true, bne_self_eq_false, Bool.not_true])))
      | (refine AWL.opN (sl := SL) rfl rfl rfl trivial ?_; (try (conv => arg -1; simp (disch := omega) only [NSX, Nat.reduceBEq, Nat.reduceAdd, Nat.reduceMul, Int.reduceToNat, Nat.reduceSub, TY, slx, take16, drop16, dz, nums_length, T1, T2, T3, row0, hc8, hX, hTt, hHt, hCt, hTl, hT1, hT2, hbl, h8, hX81, hcb, hY, hv1, eq_self, decide_true, bne_self_eq_false, Bool.not_true])))
      | (refine AW.seqQ ?_; intro Qn hQn)
      | (refine AW.blockQ ?_; intro Qn hQn)
      | refine AW.region ?_
      | ((first | refine AW.skip ?_ | refine AW.ret ?_ | refine AW.exit ?_ | refine AWL.nil ?_ | refine CW.nil ?_); (repeat (first | refine QEq.mp (by assumption) ?_ | simp only [thenQ, Go.Abs.blockQ, ↓reduceIte, Nat.reduceEqDiff])))
      | refine FW.nil ?_
      | refine FW.pass rfl rfl ?_
      | refine FW.go rfl ?_
      | refine CW.skip rfl rfl ?_
      | refine CW.step rfl rfl rfl rfl rfl ?_
      | ((first
        | (refine AWL.boxF (t := 25) rfl rfl rfl rfl rfl ?_)
        | (refine AWL.allocF (t := 25) rfl rfl rfl rfl rfl rfl ?_)
        | (refine CWr.allocF (t := 25) rfl rfl rfl ?_ ?_)
        | (refine AWL.op (sl := SL) rfl rfl ?_ ?_)
        | (refine FW.float rfl rfl rfl rfl rfl ?_)
        | (refine CWr.op rfl ?_ ?_ ?_)
        | (refine CWr.assign rfl ?_ ?_)
        | (refine CWr.alloc rfl rfl rfl rfl ?_)
        | (refine CWr.build rfl rfl rfl rfl ?_ rfl rfl rfl ?_)
        | (refine AWL.callA (f := 30) rfl rfl rfl ?_ (Nat.le_of_ble_eq_true rfl) ?_ (htake) rfl ?_; (focus kernel_rfl); (focus (simp (disch := omega) only [VW, List.toList_toArray, List.map_cons, List.map_nil, NSX, Nat.reduceBEq, Nat.reduceAdd, Nat.reduceMul, Int.reduceToNat, Nat.reduceSub, TY, slx, take16, drop16, dz, nums_length, T1, T2, T3, row0, hc8, hX, hTt, hHt, hCt, hTl, hT1, hT2, hbl, h8, hX81, hcb, hY, hv1, eq_self, decide_true, bne_self_eq_false, Bool.not_true]; (try exact rfl); done)))
        | (refine CWr.callA (f := 30) rfl ?_ ?_ (htake) rfl (fun _ _ h => h) rfl ⟨nvsB_spec rfl, (by repeat' (first | exact nvm_nil | refine nvm_cons ?_ ?_ | exact nv_nums _ _ | exact nv_all rfl | exact nv_vecC _))⟩ ?_ ?_ ?_; (focus kernel_rfl); (focus (simp (disch := omega) only [VW, List.toList_toArray, List.map_cons, List.map_nil, NSX, Nat.reduceBEq, Nat.reduceAdd, Nat.reduceMul, Int.reduceToNat, Nat.reduceSub, TY, slx, take16, drop16, dz, nums_length, T1, T2, T3, row0, hc8, hX, hTt, hHt, hCt, hTl, hT1, hT2, hbl, h8, hX81, hcb, hY, hv1, eq_self, decide_true, bne_self_eq_false, Bool.not_true]; (try exact rfl); done)))
        | (refine AWL.callA (f := 28) rfl rfl rfl ?_ (Nat.le_of_ble_eq_true rfl) ?_ (hput) rfl ?_; (focus kernel_rfl); (focus (simp (disch := omega) only [VW, List.toList_toArray, List.map_cons, List.map_nil, NSX, Nat.reduceBEq, Nat.reduceAdd, Nat.reduceMul, Int.reduceToNat, Nat.reduceSub, TY, slx, take16, drop16, dz, nums_length, T1, T2, T3, row0, hc8, hX, hTt, hHt, hCt, hTl, hT1, hT2, hbl, h8, hX81, hcb, hY, hv1, eq_self, decide_true, bne_self_eq_false, Bool.not_true]; (try exact rfl); done)))
        | (refine CWr.callA (f := 28) rfl ?_ ?_ (hput) rfl (fun _ _ h => h) rfl ⟨nvsB_spec rfl, (by repeat' (first | exact nvm_nil | refine nvm_cons ?_ ?_ | exact nv_nums _ _ | exact nv_all rfl | exact nv_vecC _))⟩ ?_ ?_ ?_; (focus kernel_rfl); (focus (simp (disch := omega) only [VW, List.toList_toArray, List.map_cons, List.map_nil, NSX, Nat.reduceBEq, Nat.reduceAdd, Nat.reduceMul, Int.reduceToNat, Nat.reduceSub, TY, slx, take16, drop16, dz, nums_length, T1, T2, T3, row0, hc8, hX, hTt, hHt, hCt, hTl, hT1, hT2, hbl, h8, hX81, hcb, hY, hv1, eq_self, decide_true, bne_self_eq_false, Bool.not_true]; (try exact rfl); done)))
        | (refine AWL.callA (f := 24) rfl rfl rfl ?_ (Nat.le_of_ble_eq_true rfl) ?_ (hsame) rfl ?_; (focus kernel_rfl); (focus (simp (disch := omega) only [VW, List.toList_toArray, List.map_cons, List.map_nil, NSX, Nat.reduceBEq, Nat.reduceAdd, Nat.reduceMul, Int.reduceToNat, Nat.reduceSub, TY, slx, take16, drop16, dz, nums_length, T1, T2, T3, row0, hc8, hX, hTt, hHt, hCt, hTl, hT1, hT2, hbl, h8, hX81, hcb, hY, hv1, eq_self, decide_true, bne_self_eq_false, Bool.not_true]; (try exact rfl); done)))
        | (refine CWr.callA (f := 24) rfl ?_ ?_ (hsame) rfl (fun _ _ h => h) rfl ⟨nvsB_spec rfl, (by repeat' (first | exact nvm_nil | refine nvm_cons ?_ ?_ | exact nv_nums _ _ | exact nv_all rfl | exact nv_vecC _))⟩ ?_ ?_ ?_; (focus kernel_rfl); (focus (simp (disch := omega) only [VW, List.toList_toArray, List.map_cons, List.map_nil, NSX, Nat.reduceBEq, Nat.reduceAdd, Nat.reduceMul, Int.reduceToNat, Nat.reduceSub, TY, slx, take16, drop16, dz, nums_length, T1, T2, T3, row0, hc8, hX, hTt, hHt, hCt, hTl, hT1, hT2, hbl, h8, hX81, hcb, hY, hv1, eq_self, decide_true, bne_self_eq_false, Bool.not_true]; (try exact rfl); done)))
        | (refine AWL.callA (f := 32) rfl rfl rfl ?_ (Nat.le_of_ble_eq_true rfl) ?_ (hvecs) rfl ?_; (focus kernel_rfl); (focus (simp (disch := omega) only [VW, List.toList_toArray, List.map_cons, List.map_nil, NSX, Nat.reduceBEq, Nat.reduceAdd, Nat.reduceMul, Int.reduceToNat, Nat.reduceSub, TY, slx, take16, drop16, dz, nums_length, T1, T2, T3, row0, hc8, hX, hTt, hHt, hCt, hTl, hT1, hT2, hbl, h8, hX81, hcb, hY, hv1, eq_self, decide_true, bne_self_eq_false, Bool.not_true]; (try exact rfl); done)))
        | (refine CWr.callA (f := 32) rfl ?_ ?_ (hvecs) rfl (fun _ _ h => h) rfl ⟨nvsB_spec rfl, (by repeat' (first | exact nvm_nil | refine nvm_cons ?_ ?_ | exact nv_nums _ _ | exact nv_all rfl | exact nv_vecC _))⟩ ?_ ?_ ?_; (focus kernel_rfl); (focus (simp (disch := omega) only [VW, List.toList_toArray, List.map_cons, List.map_nil, NSX, Nat.reduceBEq, Nat.reduceAdd, Nat.reduceMul, Int.reduceToNat, Nat.reduceSub, TY, slx, take16, drop16, dz, nums_length, T1, T2, T3, row0, hc8, hX, hTt, hHt, hCt, hTl, hT1, hT2, hbl, h8, hX81, hcb, hY, hv1, eq_self, decide_true, bne_self_eq_false, Bool.not_true]; (try exact rfl); done)))
        | ((show AWL _ _ ({ dst := _, op := _, type := _, pos := _, after := _, guard := none } :: _) _ _); refine AWL.frzA rfl rfl ?_)
        | (refine AWL.callV (f := 10) rfl rfl rfl rfl ?_ (Nat.le_of_ble_eq_true rfl) rfl (awake_ok) ?_; (focus kernel_rfl))
        | (refine AWL.call (f := 10) rfl rfl rfl ?_ rfl (Nat.le_of_ble_eq_true rfl) rfl (awake_ok) ?_; (focus kernel_rfl))
        | (refine CWr.call (f := 10) rfl ?_ rfl (awake_ok) (fun _ _ h => h) ?_ ?_ ?_; (focus kernel_rfl))
        | (refine AWL.callV (f := 14) rfl rfl rfl rfl ?_ (Nat.le_of_ble_eq_true rfl) rfl (all_ok _ hv1 hv2 _) ?_; (focus kernel_rfl))
        | (refine AWL.call (f := 14) rfl rfl rfl ?_ rfl (Nat.le_of_ble_eq_true rfl) rfl (all_ok _ hv1 hv2 _) ?_; (focus kernel_rfl))
        | (refine CWr.call (f := 14) rfl ?_ rfl (all_ok _ hv1 hv2 _) (fun _ _ h => h) ?_ ?_ ?_; (focus kernel_rfl))
        | (refine AWL.callV (f := 11) rfl rfl rfl rfl ?_ (Nat.le_of_ble_eq_true rfl) rfl (hof16) ?_; (focus kernel_rfl))
        | (refine AWL.call (f := 11) rfl rfl rfl ?_ rfl (Nat.le_of_ble_eq_true rfl) rfl (hof16) ?_; (focus kernel_rfl))
        | (refine CWr.call (f := 11) rfl ?_ rfl (hof16) (fun _ _ h => h) ?_ ?_ ?_; (focus kernel_rfl))
        | (refine AWL.callV (f := 11) rfl rfl rfl rfl ?_ (Nat.le_of_ble_eq_true rfl) rfl (hof64) ?_; (focus kernel_rfl))
        | (refine AWL.call (f := 11) rfl rfl rfl ?_ rfl (Nat.le_of_ble_eq_true rfl) rfl (hof64) ?_; (focus kernel_rfl))
        | (refine CWr.call (f := 11) rfl ?_ rfl (hof64) (fun _ _ h => h) ?_ ?_ ?_; (focus kernel_rfl))
        | fail) <;> (try ((first | show AWL _ _ _ _ _ | show AW _ _ _ _ | show FW _ _ _ _ _ _ _ _ _ _ | show CW _ _ _ _ _ _ _ _ _ _ _ _ | (rintro _ _ ⟨rfl, rfl⟩; (try refine And.intro rfl ?_) ; (try refine And.intro ⟨nvsB_spec rfl, (by repeat' (first | exact nvm_nil | refine nvm_cons ?_ ?_ | exact nv_nums _ _ | exact nv_all rfl | exact nv_vecC _))⟩ ?_))); (try (conv => arg -1; simp (disch := omega) only [NSX, Nat.reduceBEq, Nat.reduceAdd, Nat.reduceMul, Int.reduceToNat, Nat.reduceSub, TY, slx, take16, drop16, dz, nums_length, T1, T2, T3, row0, hc8, hX, hTt, hHt, hCt, hTl, hT1, hT2, hbl, h8, hX81, hcb, hY, hv1, eq_self, decide_true, bne_self_eq_false, Bool.not_true])))))
      | ((first | refine AWL.guard2 rfl rfl rfl rfl rfl rfl ?_ ?_ | refine CW.guard2 rfl rfl rfl rfl rfl rfl rfl rfl ?_ ?_) <;> (intro hc; (try simp only [Bool.not_true, Bool.not_false] at hc); first | (cases hc; done) | ((try simp only [hc]); (try simp only [beq_iff_eq, bne_iff_ne, decide_eq_true_eq, decide_eq_false_iff_not, beq_eq_false_iff_ne, bne_eq_false_iff_eq, ne_eq, Bool.not_eq_true, Bool.not_eq_false, Bool.not_eq_eq_eq_not, Bool.not_true, Bool.not_false, Decidable.not_not, Int.not_lt, Int.not_le] at hc); (try (exfalso; omega)); (try (guard_hyp hc : True; clear hc)))) <;> (try (first | (with_reducible show AWL _ _ _ _ (St.put _ _ _)) | (with_reducible show CW _ _ _ _ _ _ _ _ _ _ _ (St.put _ _ _))); (try (conv => arg -1; simp (disch := omega) only [NSX, Nat.reduceBEq, Nat.reduceAdd, Nat.reduceMul, Int.reduceToNat, Nat.reduceSub, TY, slx, take16, drop16, dz, nums_length, T1, T2, T3, row0, hc8, hX, hTt, hHt, hCt, hTl, hT1, hT2, hbl, h8, hX81, hcb, hY, hv1, eq_self, decide_true, bne_self_eq_false, Bool.not_true]))))
      | (refine AWL.guard2 rfl rfl rfl rfl rfl rfl (fun hc => ?_) ?_; (cases hc; done))
      | ((first | ((show AW _ (.region _ _ true) _ _); refine AW.calm false [] [194] (id := 28) hmix (by (repeat' (first | exact panOk_end | exact panOk_endM | refine panOk_then ?_ | refine panOk_block ?_ | refine QEq.pan (by assumption) ?_))) ?_ rfl ?_; (focus (as_aux_lemma => kernel_rfl))) | ((show AW _ (.region _ _ true) _ _); refine AW.calm false [] [] hmix (by (repeat' (first | exact panOk_end | exact panOk_endM | refine panOk_then ?_ | refine panOk_block ?_ | refine QEq.pan (by assumption) ?_))) ?_ rfl ?_; (focus (as_aux_lemma => kernel_rfl))) | refine AWL.guardU rfl rfl rfl rfl rfl rfl ?_ | refine CW.guardU rfl rfl rfl rfl rfl rfl rfl rfl ?_); (try (conv => arg -1; simp (disch := omega) only [NSX, Nat.reduceBEq, Nat.reduceAdd, Nat.reduceMul, Int.reduceToNat, Nat.reduceSub, TY, slx, take16, drop16, dz, nums_length, T1, T2, T3, row0, hc8, hX, hTt, hHt, hCt, hTl, hT1, hT2, hbl, h8, hX81, hcb, hY, hv1, eq_self, decide_true, bne_self_eq_false, Bool.not_true])))
      | refine CW.tail rfl ?_
      | (refine AW.cond rfl (fun hc => ?_) (fun hc => ?_) <;> first | (cases hc; done) | ((try simp only [beq_iff_eq, bne_iff_ne, decide_eq_true_eq, decide_eq_false_iff_not, beq_eq_false_iff_ne, bne_eq_false_iff_eq, ne_eq, Bool.not_eq_true, Bool.not_eq_false, Bool.not_eq_eq_eq_not, Bool.not_true, Bool.not_false, Decidable.not_not, Int.not_lt, Int.not_le] at hc); (try (exfalso; omega)); (try (guard_hyp hc : True; clear hc))))
      | ((refine EndQ.mk rfl rfl rfl ?_ ?_ ?_; (focus (first | exact Or.inl rfl | exact Or.inr rfl))) <;> (try simp (disch := omega) only [NSX, Nat.reduceBEq, Nat.reduceAdd, Nat.reduceMul, Int.reduceToNat, Nat.reduceSub, TY, slx, take16, drop16, dz, nums_length, T1, T2, T3, row0, hc8, hX, hTt, hHt, hCt, hTl, hT1, hT2, hbl, h8, hX81, hcb, hY, hv1, eq_self, decide_true, bne_self_eq_false, Bool.not_true]))
      | (focus ((first | exact trivial | omega | (refine And.intro (by kernel_rfl) (And.intro ⟨_, (by first | exact nums_ints _ _ | rfl), (by first | exact nums_ints _ _ | rfl)⟩ (And.intro ?_ ?_)) <;> (first | rfl | assumption | (simp only [nums_length]; omega) | omega)) | (refine And.intro ?_ (And.intro ?_ ?_); (focus kernel_rfl); (focus kernel_rfl); (focus kernel_rfl)) | ((show newKs _ _ _ = true); kernel_rfl) | ((show FitV _ _ _ _ _ _); (repeat' (first | exact trivial | exact Or.inr (Or.inl rfl) | exact Or.inl rfl | exact Or.inr (Or.inr rfl) | refine And.intro ?_ ?_)); done) | assumption | ((first | refine ld_nums i3 _ _ ?_ | refine ld_nums i29 _ _ ?_ | refine ld_nums i5 _ _ ?_ | refine at_nums i3 _ _ ?_ | refine at_nums i29 _ _ ?_ | refine at_nums i5 _ _ ?_); first | assumption | omega | (simp only [List.length_append]; omega)) | (simp only [byInt, makeC]; omega) | exact hbl.symm | exact hTl.symm | exact hh | exact hTlen | exact hlong | (simp only [List.length_replicate, List.length_append, List.length_cons, List.length_nil]; omega) | (show _ ≤ _; omega) | (simp only [List.length_take, List.length_drop, List.length_append, List.length_cons, List.length_nil]; omega) | ((repeat' (first | exact trivial | exact rfl | exact Nat.le_of_ble_eq_true rfl | refine And.intro ?_ ?_ | fail)); done) | ((try simp (disch := omega) only [NSX, Nat.reduceBEq, Nat.reduceAdd, Nat.reduceMul, Int.reduceToNat, Nat.reduceSub, TY, slx, take16, drop16, dz, nums_length, T1, T2, T3, row0, hc8, hX, hTt, hHt, hCt, hTl, hT1, hT2, hbl, h8, hX81, hcb, hY, hv1, eq_self, decide_true, bne_self_eq_false, Bool.not_true]); (repeat' (first | exact trivial | exact rfl | exact ⟨_, _, rfl⟩ | exact ⟨_, rfl⟩ | exact Nat.le_of_ble_eq_true rfl | exact Nat.zero_lt_succ _ | omega | (simp only [nums_length, toB_len] at *; omega) | refine And.intro ?_ ?_ | fail)); done)); done))
      | fail)
    refine AW.loop [0, 3, 4, 8, 10, 12, 13, 14, 16, 18] [3, 8, 10, 12, 13, 14, 16] (fun m st => ∃ (A : List V) (X : List Int) (i : Nat), st = T2 hs v A B X i ∧ A.length = hs.length * 16 ∧ X.length = hs.length ∧ i ≤ hs.length ∧ m = hs.length - i) ?_ ?_
    · exact ⟨_, _, _, 0, rfl, by rw [hcb, hbl], rfl, Nat.zero_le _, rfl⟩
    rintro m st ⟨A, X, i, rfl, hA, hXl, hi, rfl⟩
    have e6 : IntKind.i64.wrap ((i : Int) + 1) = ((i + 1 : Nat) : Int) := wrap64_id _ (by omega) (by omega)
    by_cases hin : i < hs.length
    · have hsl := setI_len (l := X) 99 (show i < X.length by omega)
      have hchk : True := by simp only [TY, slx, take16, drop16, dz, nums_length, T1, T2, T3, row0, e6, hA, hXl]
      repeat' (first
        | (refine AWL.deadAt 150 148 14 9014 rfl rfl rfl ?_; unfold St.dead; (try (conv => arg -1; simp (disch := omega) only [NSX, Nat.reduceBEq, Nat.reduceAdd, Nat.reduceMul, Int.reduceToNat, Nat.reduceSub, TY, slx, take16, drop16, dz, nums_length, T1, T2, T3, row0, e6, hA, hXl])))
        | (refine AWL.deadAt 153 151 12 9012 rfl rfl rfl ?_; unfold St.dead; (try (conv => arg -1; simp (disch := omega) only [NSX, Nat.reduceBEq, Nat.reduceAdd, Nat.reduceMul, Int.reduceToNat, Nat.reduceSub, TY, slx, take16, drop16, dz, nums_length, T1, T2, T3, row0, e6, hA, hXl])))
        | (refine AWL.opN (sl := SL) rfl rfl rfl trivial ?_; (try (conv => arg -1; simp (disch := omega) only [NSX, Nat.reduceBEq, Nat.reduceAdd, Nat.reduceMul, Int.reduceToNat, Nat.reduceSub, TY, slx, take16, drop16, dz, nums_length, T1, T2, T3, row0, e6, hA, hXl])))
        | (refine AW.seqQ ?_; intro Qn hQn)
        | (refine AW.blockQ ?_; intro Qn hQn)
        | refine AW.region ?_
        | ((first | refine AW.skip ?_ | refine AW.ret ?_ | refine AW.exit ?_ | refine AWL.nil ?_ | refine CW.nil ?_); (repeat (first | refine QEq.mp (by assumption) ?_ | simp only [thenQ, Go.Abs.blockQ, ↓reduceIte, Nat.reduceEqDiff])))
        | refine FW.nil ?_
        | refine FW.pass rfl rfl ?_
        | refine FW.go rfl ?_
        | refine CW.skip rfl rfl ?_
        | refine CW.step rfl rfl rfl rfl rfl ?_
        | ((first
          | (refine AWL.boxF (t := 25) rfl rfl rfl rfl rfl ?_)
          | (refine AWL.allocF (t := 25) rfl rfl rfl rfl rfl rfl ?_)
          | (refine CWr.allocF (t := 25) rfl rfl rfl ?_ ?_)
          | (refine AWL.op (sl := SL) rfl rfl ?_ ?_)
          | (refine FW.float rfl rfl rfl rfl rfl ?_)
          | (refine CWr.op rfl ?_ ?_ ?_)
          | (refine CWr.assign rfl ?_ ?_)
          | (refine CWr.alloc rfl rfl rfl rfl ?_)
          | (refine CWr.build rfl rfl rfl rfl ?_ rfl rfl rfl ?_)
          | (refine AWL.callA (f := 30) rfl rfl rfl ?_ (Nat.le_of_ble_eq_true rfl) ?_ (htake) rfl ?_; (focus kernel_rfl); (focus (simp (disch := omega) only [VW, List.toList_toArray, List.map_cons, List.map_nil, NSX, Nat.reduceBEq, Nat.reduceAdd, Nat.reduceMul, Int.reduceToNat, Nat.reduceSub, TY, slx, take16, drop16, dz, nums_length, T1, T2, T3, row0, e6, hA, hXl]; (try exact rfl); done)))
          | (refine CWr.callA (f := 30) rfl ?_ ?_ (htake) rfl (fun _ _ h => h) rfl ⟨nvsB_spec rfl, (by repeat' (first | exact nvm_nil | refine nvm_cons ?_ ?_ | exact nv_nums _ _ | exact nv_all rfl | exact nv_vecC _))⟩ ?_ ?_ ?_; (focus kernel_rfl); (focus (simp (disch := omega) only [VW, List.toList_toArray, List.map_cons, List.map_nil, NSX, Nat.reduceBEq, Nat.reduceAdd, Nat.reduceMul, Int.reduceToNat, Nat.reduceSub, TY, slx, take16, drop16, dz, nums_length, T1, T2, T3, row0, e6, hA, hXl]; (try exact rfl); done)))
          | (refine AWL.callA (f := 28) rfl rfl rfl ?_ (Nat.le_of_ble_eq_true rfl) ?_ (hput) rfl ?_; (focus kernel_rfl); (focus (simp (disch := omega) only [VW, List.toList_toArray, List.map_cons, List.map_nil, NSX, Nat.reduceBEq, Nat.reduceAdd, Nat.reduceMul, Int.reduceToNat, Nat.reduceSub, TY, slx, take16, drop16, dz, nums_length, T1, T2, T3, row0, e6, hA, hXl]; (try exact rfl); done)))
          | (refine CWr.callA (f := 28) rfl ?_ ?_ (hput) rfl (fun _ _ h => h) rfl ⟨nvsB_spec rfl, (by repeat' (first | exact nvm_nil | refine nvm_cons ?_ ?_ | exact nv_nums _ _ | exact nv_all rfl | exact nv_vecC _))⟩ ?_ ?_ ?_; (focus kernel_rfl); (focus (simp (disch := omega) only [VW, List.toList_toArray, List.map_cons, List.map_nil, NSX, Nat.reduceBEq, Nat.reduceAdd, Nat.reduceMul, Int.reduceToNat, Nat.reduceSub, TY, slx, take16, drop16, dz, nums_length, T1, T2, T3, row0, e6, hA, hXl]; (try exact rfl); done)))
          | (refine AWL.callA (f := 24) rfl rfl rfl ?_ (Nat.le_of_ble_eq_true rfl) ?_ (hsame) rfl ?_; (focus kernel_rfl); (focus (simp (disch := omega) only [VW, List.toList_toArray, List.map_cons, List.map_nil, NSX, Nat.reduceBEq, Nat.reduceAdd, Nat.reduceMul, Int.reduceToNat, Nat.reduceSub, TY, slx, take16, drop16, dz, nums_length, T1, T2, T3, row0, e6, hA, hXl]; (try exact rfl); done)))
          | (refine CWr.callA (f := 24) rfl ?_ ?_ (hsame) rfl (fun _ _ h => h) rfl ⟨nvsB_spec rfl, (by repeat' (first | exact nvm_nil | refine nvm_cons ?_ ?_ | exact nv_nums _ _ | exact nv_all rfl | exact nv_vecC _))⟩ ?_ ?_ ?_; (focus kernel_rfl); (focus (simp (disch := omega) only [VW, List.toList_toArray, List.map_cons, List.map_nil, NSX, Nat.reduceBEq, Nat.reduceAdd, Nat.reduceMul, Int.reduceToNat, Nat.reduceSub, TY, slx, take16, drop16, dz, nums_length, T1, T2, T3, row0, e6, hA, hXl]; (try exact rfl); done)))
          | (refine AWL.callA (f := 32) rfl rfl rfl ?_ (Nat.le_of_ble_eq_true rfl) ?_ (hvecs) rfl ?_; (focus kernel_rfl); (focus (simp (disch := omega) only [VW, List.toList_toArray, List.map_cons, List.map_nil, NSX, Nat.reduceBEq, Nat.reduceAdd, Nat.reduceMul, Int.reduceToNat, Nat.reduceSub, TY, slx, take16, drop16, dz, nums_length, T1, T2, T3, row0, e6, hA, hXl]; (try exact rfl); done)))
          | (refine CWr.callA (f := 32) rfl ?_ ?_ (hvecs) rfl (fun _ _ h => h) rfl ⟨nvsB_spec rfl, (by repeat' (first | exact nvm_nil | refine nvm_cons ?_ ?_ | exact nv_nums _ _ | exact nv_all rfl | exact nv_vecC _))⟩ ?_ ?_ ?_; (focus kernel_rfl); (focus (simp (disch := omega) only [VW, List.toList_toArray, List.map_cons, List.map_nil, NSX, Nat.reduceBEq, Nat.reduceAdd, Nat.reduceMul, Int.reduceToNat, Nat.reduceSub, TY, slx, take16, drop16, dz, nums_length, T1, T2, T3, row0, e6, hA, hXl]; (try exact rfl); done)))
          | ((show AWL _ _ ({ dst := _, op := _, type := _, pos := _, after := _, guard := none } :: _) _ _); refine AWL.frzA rfl rfl ?_)
          | (refine AWL.callV (f := 10) rfl rfl rfl rfl ?_ (Nat.le_of_ble_eq_true rfl) rfl (awake_ok) ?_; (focus kernel_rfl))
          | (refine AWL.call (f := 10) rfl rfl rfl ?_ rfl (Nat.le_of_ble_eq_true rfl) rfl (awake_ok) ?_; (focus kernel_rfl))
          | (refine CWr.call (f := 10) rfl ?_ rfl (awake_ok) (fun _ _ h => h) ?_ ?_ ?_; (focus kernel_rfl))
          | (refine AWL.callV (f := 14) rfl rfl rfl rfl ?_ (Nat.le_of_ble_eq_true rfl) rfl (all_ok _ hv1 hv2 _) ?_; (focus kernel_rfl))
          | (refine AWL.call (f := 14) rfl rfl rfl ?_ rfl (Nat.le_of_ble_eq_true rfl) rfl (all_ok _ hv1 hv2 _) ?_; (focus kernel_rfl))
          | (refine CWr.call (f := 14) rfl ?_ rfl (all_ok _ hv1 hv2 _) (fun _ _ h => h) ?_ ?_ ?_; (focus kernel_rfl))
          | (refine AWL.callV (f := 11) rfl rfl rfl rfl ?_ (Nat.le_of_ble_eq_true rfl) rfl (hof16) ?_; (focus kernel_rfl))
          | (refine AWL.call (f := 11) rfl rfl rfl ?_ rfl (Nat.le_of_ble_eq_true rfl) rfl (hof16) ?_; (focus kernel_rfl))
          | (refine CWr.call (f := 11) rfl ?_ rfl (hof16) (fun _ _ h => h) ?_ ?_ ?_; (focus kernel_rfl))
          | (refine AWL.callV (f := 11) rfl rfl rfl rfl ?_ (Nat.le_of_ble_eq_true rfl) rfl (hof64) ?_; (focus kernel_rfl))
          | (refine AWL.call (f := 11) rfl rfl rfl ?_ rfl (Nat.le_of_ble_eq_true rfl) rfl (hof64) ?_; (focus kernel_rfl))
          | (refine CWr.call (f := 11) rfl ?_ rfl (hof64) (fun _ _ h => h) ?_ ?_ ?_; (focus kernel_rfl))
          | fail) <;> (try ((first | show AWL _ _ _ _ _ | show AW _ _ _ _ | show FW _ _ _ _ _ _ _ _ _ _ | show CW _ _ _ _ _ _ _ _ _ _ _ _ | (rintro _ _ ⟨rfl, rfl⟩; (try refine And.intro rfl ?_) ; (try refine And.intro ⟨nvsB_spec rfl, (by repeat' (first | exact nvm_nil | refine nvm_cons ?_ ?_ | exact nv_nums _ _ | exact nv_all rfl | exact nv_vecC _))⟩ ?_))); (try (conv => arg -1; simp (disch := omega) only [NSX, Nat.reduceBEq, Nat.reduceAdd, Nat.reduceMul, Int.reduceToNat, Nat.reduceSub, TY, slx, take16, drop16, dz, nums_length, T1, T2, T3, row0, e6, hA, hXl])))))
        | ((first | refine AWL.guard2 rfl rfl rfl rfl rfl rfl ?_ ?_ | refine CW.guard2 rfl rfl rfl rfl rfl rfl rfl rfl ?_ ?_) <;> (intro hc; (try simp only [Bool.not_true, Bool.not_false] at hc); first | (cases hc; done) | ((try simp only [hc]); (try simp only [beq_iff_eq, bne_iff_ne, decide_eq_true_eq, decide_eq_false_iff_not, beq_eq_false_iff_ne, bne_eq_false_iff_eq, ne_eq, Bool.not_eq_true, Bool.not_eq_false, Bool.not_eq_eq_eq_not, Bool.not_true, Bool.not_false, Decidable.not_not, Int.not_lt, Int.not_le] at hc); (try (exfalso; omega)); (try (guard_hyp hc : True; clear hc)))) <;> (try (first | (with_reducible show AWL _ _ _ _ (St.put _ _ _)) | (with_reducible show CW _ _ _ _ _ _ _ _ _ _ _ (St.put _ _ _))); (try (conv => arg -1; simp (disch := omega) only [NSX, Nat.reduceBEq, Nat.reduceAdd, Nat.reduceMul, Int.reduceToNat, Nat.reduceSub, TY, slx, take16, drop16, dz, nums_length, T1, T2, T3, row0, e6, hA, hXl]))))
        | (refine AWL.guard2 rfl rfl rfl rfl rfl rfl (fun hc => ?_) ?_; (cases hc; done))
        | ((first | ((show AW _ (.region _ _ true) _ _); refine AW.calm false [] [194] (id := 28) hmix (by (repeat' (first | exact panOk_end | exact panOk_endM | refine panOk_then ?_ | refine panOk_block ?_ | refine QEq.pan (by assumption) ?_))) ?_ rfl ?_; (focus (as_aux_lemma => kernel_rfl))) | ((show AW _ (.region _ _ true) _ _); refine AW.calm false [] [] hmix (by (repeat' (first | exact panOk_end | exact panOk_endM | refine panOk_then ?_ | refine panOk_block ?_ | refine QEq.pan (by assumption) ?_))) ?_ rfl ?_; (focus (as_aux_lemma => kernel_rfl))) | refine AWL.guardU rfl rfl rfl rfl rfl rfl ?_ | refine CW.guardU rfl rfl rfl rfl rfl rfl rfl rfl ?_); (try (conv => arg -1; simp (disch := omega) only [NSX, Nat.reduceBEq, Nat.reduceAdd, Nat.reduceMul, Int.reduceToNat, Nat.reduceSub, TY, slx, take16, drop16, dz, nums_length, T1, T2, T3, row0, e6, hA, hXl])))
        | refine CW.tail rfl ?_
        | (refine AW.cond rfl (fun hc => ?_) (fun hc => ?_) <;> first | (cases hc; done) | ((try simp only [beq_iff_eq, bne_iff_ne, decide_eq_true_eq, decide_eq_false_iff_not, beq_eq_false_iff_ne, bne_eq_false_iff_eq, ne_eq, Bool.not_eq_true, Bool.not_eq_false, Bool.not_eq_eq_eq_not, Bool.not_true, Bool.not_false, Decidable.not_not, Int.not_lt, Int.not_le] at hc); (try (exfalso; omega)); (try (guard_hyp hc : True; clear hc))))
        | ((refine EndQ.mk rfl rfl rfl ?_ ?_ ?_; (focus (first | exact Or.inl rfl | exact Or.inr rfl))) <;> (try simp (disch := omega) only [NSX, Nat.reduceBEq, Nat.reduceAdd, Nat.reduceMul, Int.reduceToNat, Nat.reduceSub, TY, slx, take16, drop16, dz, nums_length, T1, T2, T3, row0, e6, hA, hXl]))
        | (focus ((first | exact trivial | omega | (refine And.intro (by kernel_rfl) (And.intro ⟨_, (by first | exact nums_ints _ _ | rfl), (by first | exact nums_ints _ _ | rfl)⟩ (And.intro ?_ ?_)) <;> (first | rfl | assumption | (simp only [nums_length]; omega) | omega)) | (refine And.intro ?_ (And.intro ?_ ?_); (focus kernel_rfl); (focus kernel_rfl); (focus kernel_rfl)) | ((show newKs _ _ _ = true); kernel_rfl) | ((show FitV _ _ _ _ _ _); (repeat' (first | exact trivial | exact Or.inr (Or.inl rfl) | exact Or.inl rfl | exact Or.inr (Or.inr rfl) | refine And.intro ?_ ?_)); done) | assumption | ((first | refine ld_nums i3 _ _ ?_ | refine ld_nums i29 _ _ ?_ | refine ld_nums i5 _ _ ?_ | refine at_nums i3 _ _ ?_ | refine at_nums i29 _ _ ?_ | refine at_nums i5 _ _ ?_); first | assumption | omega | (simp only [List.length_append]; omega)) | (simp only [byInt, makeC]; omega) | exact hbl.symm | exact hTl.symm | exact hh | exact hTlen | exact hlong | (simp only [List.length_replicate, List.length_append, List.length_cons, List.length_nil]; omega) | (show _ ≤ _; omega) | (simp only [List.length_take, List.length_drop, List.length_append, List.length_cons, List.length_nil]; omega) | ((repeat' (first | exact trivial | exact rfl | exact Nat.le_of_ble_eq_true rfl | refine And.intro ?_ ?_ | fail)); done) | ((try simp (disch := omega) only [NSX, Nat.reduceBEq, Nat.reduceAdd, Nat.reduceMul, Int.reduceToNat, Nat.reduceSub, TY, slx, take16, drop16, dz, nums_length, T1, T2, T3, row0, e6, hA, hXl]); (repeat' (first | exact trivial | exact rfl | exact ⟨_, _, rfl⟩ | exact ⟨_, rfl⟩ | exact Nat.le_of_ble_eq_true rfl | exact Nat.zero_lt_succ _ | omega | (simp only [nums_length, toB_len] at *; omega) | refine And.intro ?_ ?_ | fail)); done)); done))
        | fail)
      all_goals try simp (disch := omega) only [NSX, Nat.reduceBEq, Nat.reduceAdd, Nat.reduceMul, Int.reduceToNat, Nat.reduceSub, TY, slx, take16, drop16, dz, nums_length, T1, T2, T3, row0, e6]
      all_goals first
        | exact ⟨hs.length - (i + 1), by omega, _, _, i + 1, rfl, by simp only [List.length_append, List.length_take, List.length_drop, List.length_cons, List.length_nil]; omega, by rw [hsl]; exact hXl, by omega, rfl⟩
        | (exfalso; omega) | trace_state
    · have hchk : True := by simp only [TY, slx, take16, drop16, dz, nums_length, T1, T2, T3, row0]
      repeat' (first
        | (refine AWL.deadAt 150 148 14 9014 rfl rfl rfl ?_; unfold St.dead; (try (conv => arg -1; simp (disch := omega) only [NSX, Nat.reduceBEq, Nat.reduceAdd, Nat.reduceMul, Int.reduceToNat, Nat.reduceSub, TY, slx, take16, drop16, dz, nums_length, T1, T2, T3, row0])))
        | (refine AWL.deadAt 153 151 12 9012 rfl rfl rfl ?_; unfold St.dead; (try (conv => arg -1; simp (disch := omega) only [NSX, Nat.reduceBEq, Nat.reduceAdd, Nat.reduceMul, Int.reduceToNat, Nat.reduceSub, TY, slx, take16, drop16, dz, nums_length, T1, T2, T3, row0])))
        | (refine AWL.opN (sl := SL) rfl rfl rfl trivial ?_; (try (conv => arg -1; simp (disch := omega) only [NSX, Nat.reduceBEq, Nat.reduceAdd, Nat.reduceMul, Int.reduceToNat, Nat.reduceSub, TY, slx, take16, drop16, dz, nums_length, T1, T2, T3, row0])))
        | (refine AW.seqQ ?_; intro Qn hQn)
        | (refine AW.blockQ ?_; intro Qn hQn)
        | refine AW.region ?_
        | ((first | refine AW.skip ?_ | refine AW.ret ?_ | refine AW.exit ?_ | refine AWL.nil ?_ | refine CW.nil ?_); (repeat (first | refine QEq.mp (by assumption) ?_ | simp only [thenQ, Go.Abs.blockQ, ↓reduceIte, Nat.reduceEqDiff])))
        | refine FW.nil ?_
        | refine FW.pass rfl rfl ?_
        | refine FW.go rfl ?_
        | refine CW.skip rfl rfl ?_
        | refine CW.step rfl rfl rfl rfl rfl ?_
        | ((first
          | (refine AWL.boxF (t := 25) rfl rfl rfl rfl rfl ?_)
          | (refine AWL.allocF (t := 25) rfl rfl rfl rfl rfl rfl ?_)
          | (refine CWr.allocF (t := 25) rfl rfl rfl ?_ ?_)
          | (refine AWL.op (sl := SL) rfl rfl ?_ ?_)
          | (refine FW.float rfl rfl rfl rfl rfl ?_)
          | (refine CWr.op rfl ?_ ?_ ?_)
          | (refine CWr.assign rfl ?_ ?_)
          | (refine CWr.alloc rfl rfl rfl rfl ?_)
          | (refine CWr.build rfl rfl rfl rfl ?_ rfl rfl rfl ?_)
          | (refine AWL.callA (f := 30) rfl rfl rfl ?_ (Nat.le_of_ble_eq_true rfl) ?_ (htake) rfl ?_; (focus kernel_rfl); (focus (simp (disch := omega) only [VW, List.toList_toArray, List.map_cons, List.map_nil, NSX, Nat.reduceBEq, Nat.reduceAdd, Nat.reduceMul, Int.reduceToNat, Nat.reduceSub, TY, slx, take16, drop16, dz, nums_length, T1, T2, T3, row0]; (try exact rfl); done)))
          | (refine CWr.callA (f := 30) rfl ?_ ?_ (htake) rfl (fun _ _ h => h) rfl ⟨nvsB_spec rfl, (by repeat' (first | exact nvm_nil | refine nvm_cons ?_ ?_ | exact nv_nums _ _ | exact nv_all rfl | exact nv_vecC _))⟩ ?_ ?_ ?_; (focus kernel_rfl); (focus (simp (disch := omega) only [VW, List.toList_toArray, List.map_cons, List.map_nil, NSX, Nat.reduceBEq, Nat.reduceAdd, Nat.reduceMul, Int.reduceToNat, Nat.reduceSub, TY, slx, take16, drop16, dz, nums_length, T1, T2, T3, row0]; (try exact rfl); done)))
          | (refine AWL.callA (f := 28) rfl rfl rfl ?_ (Nat.le_of_ble_eq_true rfl) ?_ (hput) rfl ?_; (focus kernel_rfl); (focus (simp (disch := omega) only [VW, List.toList_toArray, List.map_cons, List.map_nil, NSX, Nat.reduceBEq, Nat.reduceAdd, Nat.reduceMul, Int.reduceToNat, Nat.reduceSub, TY, slx, take16, drop16, dz, nums_length, T1, T2, T3, row0]; (try exact rfl); done)))
          | (refine CWr.callA (f := 28) rfl ?_ ?_ (hput) rfl (fun _ _ h => h) rfl ⟨nvsB_spec rfl, (by repeat' (first | exact nvm_nil | refine nvm_cons ?_ ?_ | exact nv_nums _ _ | exact nv_all rfl | exact nv_vecC _))⟩ ?_ ?_ ?_; (focus kernel_rfl); (focus (simp (disch := omega) only [VW, List.toList_toArray, List.map_cons, List.map_nil, NSX, Nat.reduceBEq, Nat.reduceAdd, Nat.reduceMul, Int.reduceToNat, Nat.reduceSub, TY, slx, take16, drop16, dz, nums_length, T1, T2, T3, row0]; (try exact rfl); done)))
          | (refine AWL.callA (f := 24) rfl rfl rfl ?_ (Nat.le_of_ble_eq_true rfl) ?_ (hsame) rfl ?_; (focus kernel_rfl); (focus (simp (disch := omega) only [VW, List.toList_toArray, List.map_cons, List.map_nil, NSX, Nat.reduceBEq, Nat.reduceAdd, Nat.reduceMul, Int.reduceToNat, Nat.reduceSub, TY, slx, take16, drop16, dz, nums_length, T1, T2, T3, row0]; (try exact rfl); done)))
          | (refine CWr.callA (f := 24) rfl ?_ ?_ (hsame) rfl (fun _ _ h => h) rfl ⟨nvsB_spec rfl, (by repeat' (first | exact nvm_nil | refine nvm_cons ?_ ?_ | exact nv_nums _ _ | exact nv_all rfl | exact nv_vecC _))⟩ ?_ ?_ ?_; (focus kernel_rfl); (focus (simp (disch := omega) only [VW, List.toList_toArray, List.map_cons, List.map_nil, NSX, Nat.reduceBEq, Nat.reduceAdd, Nat.reduceMul, Int.reduceToNat, Nat.reduceSub, TY, slx, take16, drop16, dz, nums_length, T1, T2, T3, row0]; (try exact rfl); done)))
          | (refine AWL.callA (f := 32) rfl rfl rfl ?_ (Nat.le_of_ble_eq_true rfl) ?_ (hvecs) rfl ?_; (focus kernel_rfl); (focus (simp (disch := omega) only [VW, List.toList_toArray, List.map_cons, List.map_nil, NSX, Nat.reduceBEq, Nat.reduceAdd, Nat.reduceMul, Int.reduceToNat, Nat.reduceSub, TY, slx, take16, drop16, dz, nums_length, T1, T2, T3, row0]; (try exact rfl); done)))
          | (refine CWr.callA (f := 32) rfl ?_ ?_ (hvecs) rfl (fun _ _ h => h) rfl ⟨nvsB_spec rfl, (by repeat' (first | exact nvm_nil | refine nvm_cons ?_ ?_ | exact nv_nums _ _ | exact nv_all rfl | exact nv_vecC _))⟩ ?_ ?_ ?_; (focus kernel_rfl); (focus (simp (disch := omega) only [VW, List.toList_toArray, List.map_cons, List.map_nil, NSX, Nat.reduceBEq, Nat.reduceAdd, Nat.reduceMul, Int.reduceToNat, Nat.reduceSub, TY, slx, take16, drop16, dz, nums_length, T1, T2, T3, row0]; (try exact rfl); done)))
          | ((show AWL _ _ ({ dst := _, op := _, type := _, pos := _, after := _, guard := none } :: _) _ _); refine AWL.frzA rfl rfl ?_)
          | (refine AWL.callV (f := 10) rfl rfl rfl rfl ?_ (Nat.le_of_ble_eq_true rfl) rfl (awake_ok) ?_; (focus kernel_rfl))
          | (refine AWL.call (f := 10) rfl rfl rfl ?_ rfl (Nat.le_of_ble_eq_true rfl) rfl (awake_ok) ?_; (focus kernel_rfl))
          | (refine CWr.call (f := 10) rfl ?_ rfl (awake_ok) (fun _ _ h => h) ?_ ?_ ?_; (focus kernel_rfl))
          | (refine AWL.callV (f := 14) rfl rfl rfl rfl ?_ (Nat.le_of_ble_eq_true rfl) rfl (all_ok _ hv1 hv2 _) ?_; (focus kernel_rfl))
          | (refine AWL.call (f := 14) rfl rfl rfl ?_ rfl (Nat.le_of_ble_eq_true rfl) rfl (all_ok _ hv1 hv2 _) ?_; (focus kernel_rfl))
          | (refine CWr.call (f := 14) rfl ?_ rfl (all_ok _ hv1 hv2 _) (fun _ _ h => h) ?_ ?_ ?_; (focus kernel_rfl))
          | (refine AWL.callV (f := 11) rfl rfl rfl rfl ?_ (Nat.le_of_ble_eq_true rfl) rfl (hof16) ?_; (focus kernel_rfl))
          | (refine AWL.call (f := 11) rfl rfl rfl ?_ rfl (Nat.le_of_ble_eq_true rfl) rfl (hof16) ?_; (focus kernel_rfl))
          | (refine CWr.call (f := 11) rfl ?_ rfl (hof16) (fun _ _ h => h) ?_ ?_ ?_; (focus kernel_rfl))
          | (refine AWL.callV (f := 11) rfl rfl rfl rfl ?_ (Nat.le_of_ble_eq_true rfl) rfl (hof64) ?_; (focus kernel_rfl))
          | (refine AWL.call (f := 11) rfl rfl rfl ?_ rfl (Nat.le_of_ble_eq_true rfl) rfl (hof64) ?_; (focus kernel_rfl))
          | (refine CWr.call (f := 11) rfl ?_ rfl (hof64) (fun _ _ h => h) ?_ ?_ ?_; (focus kernel_rfl))
          | fail) <;> (try ((first | show AWL _ _ _ _ _ | show AW _ _ _ _ | show FW _ _ _ _ _ _ _ _ _ _ | show CW _ _ _ _ _ _ _ _ _ _ _ _ | (rintro _ _ ⟨rfl, rfl⟩; (try refine And.intro rfl ?_) ; (try refine And.intro ⟨nvsB_spec rfl, (by repeat' (first | exact nvm_nil | refine nvm_cons ?_ ?_ | exact nv_nums _ _ | exact nv_all rfl | exact nv_vecC _))⟩ ?_))); (try (conv => arg -1; simp (disch := omega) only [NSX, Nat.reduceBEq, Nat.reduceAdd, Nat.reduceMul, Int.reduceToNat, Nat.reduceSub, TY, slx, take16, drop16, dz, nums_length, T1, T2, T3, row0])))))
        | ((first | refine AWL.guard2 rfl rfl rfl rfl rfl rfl ?_ ?_ | refine CW.guard2 rfl rfl rfl rfl rfl rfl rfl rfl ?_ ?_) <;> (intro hc; (try simp only [Bool.not_true, Bool.not_false] at hc); first | (cases hc; done) | ((try simp only [hc]); (try simp only [beq_iff_eq, bne_iff_ne, decide_eq_true_eq, decide_eq_false_iff_not, beq_eq_false_iff_ne, bne_eq_false_iff_eq, ne_eq, Bool.not_eq_true, Bool.not_eq_false, Bool.not_eq_eq_eq_not, Bool.not_true, Bool.not_false, Decidable.not_not, Int.not_lt, Int.not_le] at hc); (try (exfalso; omega)); (try (guard_hyp hc : True; clear hc)))) <;> (try (first | (with_reducible show AWL _ _ _ _ (St.put _ _ _)) | (with_reducible show CW _ _ _ _ _ _ _ _ _ _ _ (St.put _ _ _))); (try (conv => arg -1; simp (disch := omega) only [NSX, Nat.reduceBEq, Nat.reduceAdd, Nat.reduceMul, Int.reduceToNat, Nat.reduceSub, TY, slx, take16, drop16, dz, nums_length, T1, T2, T3, row0]))))
        | (refine AWL.guard2 rfl rfl rfl rfl rfl rfl (fun hc => ?_) ?_; (cases hc; done))
        | ((first | ((show AW _ (.region _ _ true) _ _); refine AW.calm false [] [194] (id := 28) hmix (by (repeat' (first | exact panOk_end | exact panOk_endM | refine panOk_then ?_ | refine panOk_block ?_ | refine QEq.pan (by assumption) ?_))) ?_ rfl ?_; (focus (as_aux_lemma => kernel_rfl))) | ((show AW _ (.region _ _ true) _ _); refine AW.calm false [] [] hmix (by (repeat' (first | exact panOk_end | exact panOk_endM | refine panOk_then ?_ | refine panOk_block ?_ | refine QEq.pan (by assumption) ?_))) ?_ rfl ?_; (focus (as_aux_lemma => kernel_rfl))) | refine AWL.guardU rfl rfl rfl rfl rfl rfl ?_ | refine CW.guardU rfl rfl rfl rfl rfl rfl rfl rfl ?_); (try (conv => arg -1; simp (disch := omega) only [NSX, Nat.reduceBEq, Nat.reduceAdd, Nat.reduceMul, Int.reduceToNat, Nat.reduceSub, TY, slx, take16, drop16, dz, nums_length, T1, T2, T3, row0])))
        | refine CW.tail rfl ?_
        | (refine AW.cond rfl (fun hc => ?_) (fun hc => ?_) <;> first | (cases hc; done) | ((try simp only [beq_iff_eq, bne_iff_ne, decide_eq_true_eq, decide_eq_false_iff_not, beq_eq_false_iff_ne, bne_eq_false_iff_eq, ne_eq, Bool.not_eq_true, Bool.not_eq_false, Bool.not_eq_eq_eq_not, Bool.not_true, Bool.not_false, Decidable.not_not, Int.not_lt, Int.not_le] at hc); (try (exfalso; omega)); (try (guard_hyp hc : True; clear hc))))
        | ((refine EndQ.mk rfl rfl rfl ?_ ?_ ?_; (focus (first | exact Or.inl rfl | exact Or.inr rfl))) <;> (try simp (disch := omega) only [NSX, Nat.reduceBEq, Nat.reduceAdd, Nat.reduceMul, Int.reduceToNat, Nat.reduceSub, TY, slx, take16, drop16, dz, nums_length, T1, T2, T3, row0]))
        | (focus ((first | exact trivial | omega | (refine And.intro (by kernel_rfl) (And.intro ⟨_, (by first | exact nums_ints _ _ | rfl), (by first | exact nums_ints _ _ | rfl)⟩ (And.intro ?_ ?_)) <;> (first | rfl | assumption | (simp only [nums_length]; omega) | omega)) | (refine And.intro ?_ (And.intro ?_ ?_); (focus kernel_rfl); (focus kernel_rfl); (focus kernel_rfl)) | ((show newKs _ _ _ = true); kernel_rfl) | ((show FitV _ _ _ _ _ _); (repeat' (first | exact trivial | exact Or.inr (Or.inl rfl) | exact Or.inl rfl | exact Or.inr (Or.inr rfl) | refine And.intro ?_ ?_)); done) | assumption | ((first | refine ld_nums i3 _ _ ?_ | refine ld_nums i29 _ _ ?_ | refine ld_nums i5 _ _ ?_ | refine at_nums i3 _ _ ?_ | refine at_nums i29 _ _ ?_ | refine at_nums i5 _ _ ?_); first | assumption | omega | (simp only [List.length_append]; omega)) | (simp only [byInt, makeC]; omega) | exact hbl.symm | exact hTl.symm | exact hh | exact hTlen | exact hlong | (simp only [List.length_replicate, List.length_append, List.length_cons, List.length_nil]; omega) | (show _ ≤ _; omega) | (simp only [List.length_take, List.length_drop, List.length_append, List.length_cons, List.length_nil]; omega) | ((repeat' (first | exact trivial | exact rfl | exact Nat.le_of_ble_eq_true rfl | refine And.intro ?_ ?_ | fail)); done) | ((try simp (disch := omega) only [NSX, Nat.reduceBEq, Nat.reduceAdd, Nat.reduceMul, Int.reduceToNat, Nat.reduceSub, TY, slx, take16, drop16, dz, nums_length, T1, T2, T3, row0]); (repeat' (first | exact trivial | exact rfl | exact ⟨_, _, rfl⟩ | exact ⟨_, rfl⟩ | exact Nat.le_of_ble_eq_true rfl | exact Nat.zero_lt_succ _ | omega | (simp only [nums_length, toB_len] at *; omega) | refine And.intro ?_ ?_ | fail)); done)); done))
        | fail)
      refine AW.loop [0, 3, 4, 10, 12, 13, 14, 16, 19] [3, 10, 12, 13, 14, 16] (fun m st => ∃ (C : List Int) (j : Nat), st = T3 hs v B X C j ∧ C.length = 8 ∧ j ≤ 8 ∧ m = 8 - j) ?_ ?_
      · exact ⟨_, _, 0, rfl, h8, Nat.zero_le _, rfl⟩
      rintro m st ⟨C, j, rfl, hC, hj, rfl⟩
      have e7 : IntKind.i64.wrap ((j : Int) + 1) = ((j + 1 : Nat) : Int) := wrap64_id _ (by omega) (by omega)
      by_cases hj8 : j < 8
      · have hsl := setI_len (l := C) 1099511627776 (show j < C.length by omega)
        have hchk : True := by simp only [TY, slx, take16, drop16, dz, nums_length, T1, T2, T3, row0, e7, hC]
        repeat' (first
          | (refine AWL.deadAt 150 148 14 9014 rfl rfl rfl ?_; unfold St.dead; (try (conv => arg -1; simp (disch := omega) only [NSX, Nat.reduceBEq, Nat.reduceAdd, Nat.reduceMul, Int.reduceToNat, Nat.reduceSub, TY, slx, take16, drop16, dz, nums_length, T1, T2, T3, row0, e7, hC])))
          | (refine AWL.deadAt 153 151 12 9012 rfl rfl rfl ?_; unfold St.dead; (try (conv => arg -1; simp (disch := omega) only [NSX, Nat.reduceBEq, Nat.reduceAdd, Nat.reduceMul, Int.reduceToNat, Nat.reduceSub, TY, slx, take16, drop16, dz, nums_length, T1, T2, T3, row0, e7, hC])))
          | (refine AWL.opN (sl := SL) rfl rfl rfl trivial ?_; (try (conv => arg -1; simp (disch := omega) only [NSX, Nat.reduceBEq, Nat.reduceAdd, Nat.reduceMul, Int.reduceToNat, Nat.reduceSub, TY, slx, take16, drop16, dz, nums_length, T1, T2, T3, row0, e7, hC])))
          | (refine AW.seqQ ?_; intro Qn hQn)
          | (refine AW.blockQ ?_; intro Qn hQn)
          | refine AW.region ?_
          | ((first | refine AW.skip ?_ | refine AW.ret ?_ | refine AW.exit ?_ | refine AWL.nil ?_ | refine CW.nil ?_); (repeat (first | refine QEq.mp (by assumption) ?_ | simp only [thenQ, Go.Abs.blockQ, ↓reduceIte, Nat.reduceEqDiff])))
          | refine FW.nil ?_
          | refine FW.pass rfl rfl ?_
          | refine FW.go rfl ?_
          | refine CW.skip rfl rfl ?_
          | refine CW.step rfl rfl rfl rfl rfl ?_
          | ((first
            | (refine AWL.boxF (t := 25) rfl rfl rfl rfl rfl ?_)
            | (refine AWL.allocF (t := 25) rfl rfl rfl rfl rfl rfl ?_)
            | (refine CWr.allocF (t := 25) rfl rfl rfl ?_ ?_)
            | (refine AWL.op (sl := SL) rfl rfl ?_ ?_)
            | (refine FW.float rfl rfl rfl rfl rfl ?_)
            | (refine CWr.op rfl ?_ ?_ ?_)
            | (refine CWr.assign rfl ?_ ?_)
            | (refine CWr.alloc rfl rfl rfl rfl ?_)
            | (refine CWr.build rfl rfl rfl rfl ?_ rfl rfl rfl ?_)
            | (refine AWL.callA (f := 30) rfl rfl rfl ?_ (Nat.le_of_ble_eq_true rfl) ?_ (htake) rfl ?_; (focus kernel_rfl); (focus (simp (disch := omega) only [VW, List.toList_toArray, List.map_cons, List.map_nil, NSX, Nat.reduceBEq, Nat.reduceAdd, Nat.reduceMul, Int.reduceToNat, Nat.reduceSub, TY, slx, take16, drop16, dz, nums_length, T1, T2, T3, row0, e7, hC]; (try exact rfl); done)))
            | (refine CWr.callA (f := 30) rfl ?_ ?_ (htake) rfl (fun _ _ h => h) rfl ⟨nvsB_spec rfl, (by repeat' (first | exact nvm_nil | refine nvm_cons ?_ ?_ | exact nv_nums _ _ | exact nv_all rfl | exact nv_vecC _))⟩ ?_ ?_ ?_; (focus kernel_rfl); (focus (simp (disch := omega) only [VW, List.toList_toArray, List.map_cons, List.map_nil, NSX, Nat.reduceBEq, Nat.reduceAdd, Nat.reduceMul, Int.reduceToNat, Nat.reduceSub, TY, slx, take16, drop16, dz, nums_length, T1, T2, T3, row0, e7, hC]; (try exact rfl); done)))
            | (refine AWL.callA (f := 28) rfl rfl rfl ?_ (Nat.le_of_ble_eq_true rfl) ?_ (hput) rfl ?_; (focus kernel_rfl); (focus (simp (disch := omega) only [VW, List.toList_toArray, List.map_cons, List.map_nil, NSX, Nat.reduceBEq, Nat.reduceAdd, Nat.reduceMul, Int.reduceToNat, Nat.reduceSub, TY, slx, take16, drop16, dz, nums_length, T1, T2, T3, row0, e7, hC]; (try exact rfl); done)))
            | (refine CWr.callA (f := 28) rfl ?_ ?_ (hput) rfl (fun _ _ h => h) rfl ⟨nvsB_spec rfl, (by repeat' (first | exact nvm_nil | refine nvm_cons ?_ ?_ | exact nv_nums _ _ | exact nv_all rfl | exact nv_vecC _))⟩ ?_ ?_ ?_; (focus kernel_rfl); (focus (simp (disch := omega) only [VW, List.toList_toArray, List.map_cons, List.map_nil, NSX, Nat.reduceBEq, Nat.reduceAdd, Nat.reduceMul, Int.reduceToNat, Nat.reduceSub, TY, slx, take16, drop16, dz, nums_length, T1, T2, T3, row0, e7, hC]; (try exact rfl); done)))
            | (refine AWL.callA (f := 24) rfl rfl rfl ?_ (Nat.le_of_ble_eq_true rfl) ?_ (hsame) rfl ?_; (focus kernel_rfl); (focus (simp (disch := omega) only [VW, List.toList_toArray, List.map_cons, List.map_nil, NSX, Nat.reduceBEq, Nat.reduceAdd, Nat.reduceMul, Int.reduceToNat, Nat.reduceSub, TY, slx, take16, drop16, dz, nums_length, T1, T2, T3, row0, e7, hC]; (try exact rfl); done)))
            | (refine CWr.callA (f := 24) rfl ?_ ?_ (hsame) rfl (fun _ _ h => h) rfl ⟨nvsB_spec rfl, (by repeat' (first | exact nvm_nil | refine nvm_cons ?_ ?_ | exact nv_nums _ _ | exact nv_all rfl | exact nv_vecC _))⟩ ?_ ?_ ?_; (focus kernel_rfl); (focus (simp (disch := omega) only [VW, List.toList_toArray, List.map_cons, List.map_nil, NSX, Nat.reduceBEq, Nat.reduceAdd, Nat.reduceMul, Int.reduceToNat, Nat.reduceSub, TY, slx, take16, drop16, dz, nums_length, T1, T2, T3, row0, e7, hC]; (try exact rfl); done)))
            | (refine AWL.callA (f := 32) rfl rfl rfl ?_ (Nat.le_of_ble_eq_true rfl) ?_ (hvecs) rfl ?_; (focus kernel_rfl); (focus (simp (disch := omega) only [VW, List.toList_toArray, List.map_cons, List.map_nil, NSX, Nat.reduceBEq, Nat.reduceAdd, Nat.reduceMul, Int.reduceToNat, Nat.reduceSub, TY, slx, take16, drop16, dz, nums_length, T1, T2, T3, row0, e7, hC]; (try exact rfl); done)))
            | (refine CWr.callA (f := 32) rfl ?_ ?_ (hvecs) rfl (fun _ _ h => h) rfl ⟨nvsB_spec rfl, (by repeat' (first | exact nvm_nil | refine nvm_cons ?_ ?_ | exact nv_nums _ _ | exact nv_all rfl | exact nv_vecC _))⟩ ?_ ?_ ?_; (focus kernel_rfl); (focus (simp (disch := omega) only [VW, List.toList_toArray, List.map_cons, List.map_nil, NSX, Nat.reduceBEq, Nat.reduceAdd, Nat.reduceMul, Int.reduceToNat, Nat.reduceSub, TY, slx, take16, drop16, dz, nums_length, T1, T2, T3, row0, e7, hC]; (try exact rfl); done)))
            | ((show AWL _ _ ({ dst := _, op := _, type := _, pos := _, after := _, guard := none } :: _) _ _); refine AWL.frzA rfl rfl ?_)
            | (refine AWL.callV (f := 10) rfl rfl rfl rfl ?_ (Nat.le_of_ble_eq_true rfl) rfl (awake_ok) ?_; (focus kernel_rfl))
            | (refine AWL.call (f := 10) rfl rfl rfl ?_ rfl (Nat.le_of_ble_eq_true rfl) rfl (awake_ok) ?_; (focus kernel_rfl))
            | (refine CWr.call (f := 10) rfl ?_ rfl (awake_ok) (fun _ _ h => h) ?_ ?_ ?_; (focus kernel_rfl))
            | (refine AWL.callV (f := 14) rfl rfl rfl rfl ?_ (Nat.le_of_ble_eq_true rfl) rfl (all_ok _ hv1 hv2 _) ?_; (focus kernel_rfl))
            | (refine AWL.call (f := 14) rfl rfl rfl ?_ rfl (Nat.le_of_ble_eq_true rfl) rfl (all_ok _ hv1 hv2 _) ?_; (focus kernel_rfl))
            | (refine CWr.call (f := 14) rfl ?_ rfl (all_ok _ hv1 hv2 _) (fun _ _ h => h) ?_ ?_ ?_; (focus kernel_rfl))
            | (refine AWL.callV (f := 11) rfl rfl rfl rfl ?_ (Nat.le_of_ble_eq_true rfl) rfl (hof16) ?_; (focus kernel_rfl))
            | (refine AWL.call (f := 11) rfl rfl rfl ?_ rfl (Nat.le_of_ble_eq_true rfl) rfl (hof16) ?_; (focus kernel_rfl))
            | (refine CWr.call (f := 11) rfl ?_ rfl (hof16) (fun _ _ h => h) ?_ ?_ ?_; (focus kernel_rfl))
            | (refine AWL.callV (f := 11) rfl rfl rfl rfl ?_ (Nat.le_of_ble_eq_true rfl) rfl (hof64) ?_; (focus kernel_rfl))
            | (refine AWL.call (f := 11) rfl rfl rfl ?_ rfl (Nat.le_of_ble_eq_true rfl) rfl (hof64) ?_; (focus kernel_rfl))
            | (refine CWr.call (f := 11) rfl ?_ rfl (hof64) (fun _ _ h => h) ?_ ?_ ?_; (focus kernel_rfl))
            | fail) <;> (try ((first | show AWL _ _ _ _ _ | show AW _ _ _ _ | show FW _ _ _ _ _ _ _ _ _ _ | show CW _ _ _ _ _ _ _ _ _ _ _ _ | (rintro _ _ ⟨rfl, rfl⟩; (try refine And.intro rfl ?_) ; (try refine And.intro ⟨nvsB_spec rfl, (by repeat' (first | exact nvm_nil | refine nvm_cons ?_ ?_ | exact nv_nums _ _ | exact nv_all rfl | exact nv_vecC _))⟩ ?_))); (try (conv => arg -1; simp (disch := omega) only [NSX, Nat.reduceBEq, Nat.reduceAdd, Nat.reduceMul, Int.reduceToNat, Nat.reduceSub, TY, slx, take16, drop16, dz, nums_length, T1, T2, T3, row0, e7, hC])))))
          | ((first | refine AWL.guard2 rfl rfl rfl rfl rfl rfl ?_ ?_ | refine CW.guard2 rfl rfl rfl rfl rfl rfl rfl rfl ?_ ?_) <;> (intro hc; (try simp only [Bool.not_true, Bool.not_false] at hc); first | (cases hc; done) | ((try simp only [hc]); (try simp only [beq_iff_eq, bne_iff_ne, decide_eq_true_eq, decide_eq_false_iff_not, beq_eq_false_iff_ne, bne_eq_false_iff_eq, ne_eq, Bool.not_eq_true, Bool.not_eq_false, Bool.not_eq_eq_eq_not, Bool.not_true, Bool.not_false, Decidable.not_not, Int.not_lt, Int.not_le] at hc); (try (exfalso; omega)); (try (guard_hyp hc : True; clear hc)))) <;> (try (first | (with_reducible show AWL _ _ _ _ (St.put _ _ _)) | (with_reducible show CW _ _ _ _ _ _ _ _ _ _ _ (St.put _ _ _))); (try (conv => arg -1; simp (disch := omega) only [NSX, Nat.reduceBEq, Nat.reduceAdd, Nat.reduceMul, Int.reduceToNat, Nat.reduceSub, TY, slx, take16, drop16, dz, nums_length, T1, T2, T3, row0, e7, hC]))))
          | (refine AWL.guard2 rfl rfl rfl rfl rfl rfl (fun hc => ?_) ?_; (cases hc; done))
          | ((first | ((show AW _ (.region _ _ true) _ _); refine AW.calm false [] [194] (id := 28) hmix (by (repeat' (first | exact panOk_end | exact panOk_endM | refine panOk_then ?_ | refine panOk_block ?_ | refine QEq.pan (by assumption) ?_))) ?_ rfl ?_; (focus (as_aux_lemma => kernel_rfl))) | ((show AW _ (.region _ _ true) _ _); refine AW.calm false [] [] hmix (by (repeat' (first | exact panOk_end | exact panOk_endM | refine panOk_then ?_ | refine panOk_block ?_ | refine QEq.pan (by assumption) ?_))) ?_ rfl ?_; (focus (as_aux_lemma => kernel_rfl))) | refine AWL.guardU rfl rfl rfl rfl rfl rfl ?_ | refine CW.guardU rfl rfl rfl rfl rfl rfl rfl rfl ?_); (try (conv => arg -1; simp (disch := omega) only [NSX, Nat.reduceBEq, Nat.reduceAdd, Nat.reduceMul, Int.reduceToNat, Nat.reduceSub, TY, slx, take16, drop16, dz, nums_length, T1, T2, T3, row0, e7, hC])))
          | refine CW.tail rfl ?_
          | (refine AW.cond rfl (fun hc => ?_) (fun hc => ?_) <;> first | (cases hc; done) | ((try simp only [beq_iff_eq, bne_iff_ne, decide_eq_true_eq, decide_eq_false_iff_not, beq_eq_false_iff_ne, bne_eq_false_iff_eq, ne_eq, Bool.not_eq_true, Bool.not_eq_false, Bool.not_eq_eq_eq_not, Bool.not_true, Bool.not_false, Decidable.not_not, Int.not_lt, Int.not_le] at hc); (try (exfalso; omega)); (try (guard_hyp hc : True; clear hc))))
          | ((refine EndQ.mk rfl rfl rfl ?_ ?_ ?_; (focus (first | exact Or.inl rfl | exact Or.inr rfl))) <;> (try simp (disch := omega) only [NSX, Nat.reduceBEq, Nat.reduceAdd, Nat.reduceMul, Int.reduceToNat, Nat.reduceSub, TY, slx, take16, drop16, dz, nums_length, T1, T2, T3, row0, e7, hC]))
          | (focus ((first | exact trivial | omega | (refine And.intro (by kernel_rfl) (And.intro ⟨_, (by first | exact nums_ints _ _ | rfl), (by first | exact nums_ints _ _ | rfl)⟩ (And.intro ?_ ?_)) <;> (first | rfl | assumption | (simp only [nums_length]; omega) | omega)) | (refine And.intro ?_ (And.intro ?_ ?_); (focus kernel_rfl); (focus kernel_rfl); (focus kernel_rfl)) | ((show newKs _ _ _ = true); kernel_rfl) | ((show FitV _ _ _ _ _ _); (repeat' (first | exact trivial | exact Or.inr (Or.inl rfl) | exact Or.inl rfl | exact Or.inr (Or.inr rfl) | refine And.intro ?_ ?_)); done) | assumption | ((first | refine ld_nums i3 _ _ ?_ | refine ld_nums i29 _ _ ?_ | refine ld_nums i5 _ _ ?_ | refine at_nums i3 _ _ ?_ | refine at_nums i29 _ _ ?_ | refine at_nums i5 _ _ ?_); first | assumption | omega | (simp only [List.length_append]; omega)) | (simp only [byInt, makeC]; omega) | exact hbl.symm | exact hTl.symm | exact hh | exact hTlen | exact hlong | (simp only [List.length_replicate, List.length_append, List.length_cons, List.length_nil]; omega) | (show _ ≤ _; omega) | (simp only [List.length_take, List.length_drop, List.length_append, List.length_cons, List.length_nil]; omega) | ((repeat' (first | exact trivial | exact rfl | exact Nat.le_of_ble_eq_true rfl | refine And.intro ?_ ?_ | fail)); done) | ((try simp (disch := omega) only [NSX, Nat.reduceBEq, Nat.reduceAdd, Nat.reduceMul, Int.reduceToNat, Nat.reduceSub, TY, slx, take16, drop16, dz, nums_length, T1, T2, T3, row0, e7, hC]); (repeat' (first | exact trivial | exact rfl | exact ⟨_, _, rfl⟩ | exact ⟨_, rfl⟩ | exact Nat.le_of_ble_eq_true rfl | exact Nat.zero_lt_succ _ | omega | (simp only [nums_length, toB_len] at *; omega) | refine And.intro ?_ ?_ | fail)); done)); done))
          | fail)
        all_goals try simp (disch := omega) only [NSX, Nat.reduceBEq, Nat.reduceAdd, Nat.reduceMul, Int.reduceToNat, Nat.reduceSub, TY, slx, take16, drop16, dz, nums_length, T1, T2, T3, row0, e7]
        all_goals first
          | exact ⟨8 - (j + 1), by omega, _, j + 1, rfl, by rw [hsl]; exact hC, by omega, rfl⟩
          | (exfalso; omega) | trace_state
      · have e8 : IntKind.i64.wrap ((hs.length : Int) + 3) = ((hs.length + 3 : Nat) : Int) := by rw [wrap64_id _ (by omega) (by omega)]; omega
        have hchk : True := by simp only [TY, slx, take16, drop16, dz, nums_length, T1, T2, T3, row0, hC, hXl]
        repeat' (first
          | (refine AWL.deadAt 150 148 14 9014 rfl rfl rfl ?_; unfold St.dead; (try (conv => arg -1; simp (disch := omega) only [NSX, Nat.reduceBEq, Nat.reduceAdd, Nat.reduceMul, Int.reduceToNat, Nat.reduceSub, TY, slx, take16, drop16, dz, nums_length, T1, T2, T3, row0, hC, hXl])))
          | (refine AWL.deadAt 153 151 12 9012 rfl rfl rfl ?_; unfold St.dead; (try (conv => arg -1; simp (disch := omega) only [NSX, Nat.reduceBEq, Nat.reduceAdd, Nat.reduceMul, Int.reduceToNat, Nat.reduceSub, TY, slx, take16, drop16, dz, nums_length, T1, T2, T3, row0, hC, hXl])))
          | (refine AWL.opN (sl := SL) rfl rfl rfl trivial ?_; (try (conv => arg -1; simp (disch := omega) only [NSX, Nat.reduceBEq, Nat.reduceAdd, Nat.reduceMul, Int.reduceToNat, Nat.reduceSub, TY, slx, take16, drop16, dz, nums_length, T1, T2, T3, row0, hC, hXl])))
          | (refine AW.seqQ ?_; intro Qn hQn)
          | (refine AW.blockQ ?_; intro Qn hQn)
          | ((fail_if_success (show AW _ (.region 28 _ _) _ _)); refine AW.region ?_)
          | ((first | refine AW.skip ?_ | refine AW.ret ?_ | refine AW.exit ?_ | refine AWL.nil ?_ | refine CW.nil ?_); (repeat (first | refine QEq.mp (by assumption) ?_ | simp only [thenQ, Go.Abs.blockQ, ↓reduceIte, Nat.reduceEqDiff])))
          | refine FW.nil ?_
          | refine FW.pass rfl rfl ?_
          | refine FW.go rfl ?_
          | refine CW.skip rfl rfl ?_
          | refine CW.step rfl rfl rfl rfl rfl ?_
          | ((first
            | (refine AWL.boxF (t := 25) rfl rfl rfl rfl rfl ?_)
            | (refine AWL.allocF (t := 25) rfl rfl rfl rfl rfl rfl ?_)
            | (refine CWr.allocF (t := 25) rfl rfl rfl ?_ ?_)
            | (refine AWL.op (sl := SL) rfl rfl ?_ ?_)
            | (refine FW.float rfl rfl rfl rfl rfl ?_)
            | (refine CWr.op rfl ?_ ?_ ?_)
            | (refine CWr.assign rfl ?_ ?_)
            | (refine CWr.alloc rfl rfl rfl rfl ?_)
            | (refine CWr.build rfl rfl rfl rfl ?_ rfl rfl rfl ?_)
            | (refine AWL.callA (f := 30) rfl rfl rfl ?_ (Nat.le_of_ble_eq_true rfl) ?_ (htake) rfl ?_; (focus kernel_rfl); (focus (simp (disch := omega) only [VW, List.toList_toArray, List.map_cons, List.map_nil, NSX, Nat.reduceBEq, Nat.reduceAdd, Nat.reduceMul, Int.reduceToNat, Nat.reduceSub, TY, slx, take16, drop16, dz, nums_length, T1, T2, T3, row0, hC, hXl]; (try exact rfl); done)))
            | (refine CWr.callA (f := 30) rfl ?_ ?_ (htake) rfl (fun _ _ h => h) rfl ⟨nvsB_spec rfl, (by repeat' (first | exact nvm_nil | refine nvm_cons ?_ ?_ | exact nv_nums _ _ | exact nv_all rfl | exact nv_vecC _))⟩ ?_ ?_ ?_; (focus kernel_rfl); (focus (simp (disch := omega) only [VW, List.toList_toArray, List.map_cons, List.map_nil, NSX, Nat.reduceBEq, Nat.reduceAdd, Nat.reduceMul, Int.reduceToNat, Nat.reduceSub, TY, slx, take16, drop16, dz, nums_length, T1, T2, T3, row0, hC, hXl]; (try exact rfl); done)))
            | (refine AWL.callA (f := 28) rfl rfl rfl ?_ (Nat.le_of_ble_eq_true rfl) ?_ (hput) rfl ?_; (focus kernel_rfl); (focus (simp (disch := omega) only [VW, List.toList_toArray, List.map_cons, List.map_nil, NSX, Nat.reduceBEq, Nat.reduceAdd, Nat.reduceMul, Int.reduceToNat, Nat.reduceSub, TY, slx, take16, drop16, dz, nums_length, T1, T2, T3, row0, hC, hXl]; (try exact rfl); done)))
            | (refine CWr.callA (f := 28) rfl ?_ ?_ (hput) rfl (fun _ _ h => h) rfl ⟨nvsB_spec rfl, (by repeat' (first | exact nvm_nil | refine nvm_cons ?_ ?_ | exact nv_nums _ _ | exact nv_all rfl | exact nv_vecC _))⟩ ?_ ?_ ?_; (focus kernel_rfl); (focus (simp (disch := omega) only [VW, List.toList_toArray, List.map_cons, List.map_nil, NSX, Nat.reduceBEq, Nat.reduceAdd, Nat.reduceMul, Int.reduceToNat, Nat.reduceSub, TY, slx, take16, drop16, dz, nums_length, T1, T2, T3, row0, hC, hXl]; (try exact rfl); done)))
            | (refine AWL.callA (f := 24) rfl rfl rfl ?_ (Nat.le_of_ble_eq_true rfl) ?_ (hsame) rfl ?_; (focus kernel_rfl); (focus (simp (disch := omega) only [VW, List.toList_toArray, List.map_cons, List.map_nil, NSX, Nat.reduceBEq, Nat.reduceAdd, Nat.reduceMul, Int.reduceToNat, Nat.reduceSub, TY, slx, take16, drop16, dz, nums_length, T1, T2, T3, row0, hC, hXl]; (try exact rfl); done)))
            | (refine CWr.callA (f := 24) rfl ?_ ?_ (hsame) rfl (fun _ _ h => h) rfl ⟨nvsB_spec rfl, (by repeat' (first | exact nvm_nil | refine nvm_cons ?_ ?_ | exact nv_nums _ _ | exact nv_all rfl | exact nv_vecC _))⟩ ?_ ?_ ?_; (focus kernel_rfl); (focus (simp (disch := omega) only [VW, List.toList_toArray, List.map_cons, List.map_nil, NSX, Nat.reduceBEq, Nat.reduceAdd, Nat.reduceMul, Int.reduceToNat, Nat.reduceSub, TY, slx, take16, drop16, dz, nums_length, T1, T2, T3, row0, hC, hXl]; (try exact rfl); done)))
            | (refine AWL.callA (f := 32) rfl rfl rfl ?_ (Nat.le_of_ble_eq_true rfl) ?_ (hvecs) rfl ?_; (focus kernel_rfl); (focus (simp (disch := omega) only [VW, List.toList_toArray, List.map_cons, List.map_nil, NSX, Nat.reduceBEq, Nat.reduceAdd, Nat.reduceMul, Int.reduceToNat, Nat.reduceSub, TY, slx, take16, drop16, dz, nums_length, T1, T2, T3, row0, hC, hXl]; (try exact rfl); done)))
            | (refine CWr.callA (f := 32) rfl ?_ ?_ (hvecs) rfl (fun _ _ h => h) rfl ⟨nvsB_spec rfl, (by repeat' (first | exact nvm_nil | refine nvm_cons ?_ ?_ | exact nv_nums _ _ | exact nv_all rfl | exact nv_vecC _))⟩ ?_ ?_ ?_; (focus kernel_rfl); (focus (simp (disch := omega) only [VW, List.toList_toArray, List.map_cons, List.map_nil, NSX, Nat.reduceBEq, Nat.reduceAdd, Nat.reduceMul, Int.reduceToNat, Nat.reduceSub, TY, slx, take16, drop16, dz, nums_length, T1, T2, T3, row0, hC, hXl]; (try exact rfl); done)))
            | ((show AWL _ _ ({ dst := _, op := _, type := _, pos := _, after := _, guard := none } :: _) _ _); refine AWL.frzA rfl rfl ?_)
            | (refine AWL.callV (f := 10) rfl rfl rfl rfl ?_ (Nat.le_of_ble_eq_true rfl) rfl (awake_ok) ?_; (focus kernel_rfl))
            | (refine AWL.call (f := 10) rfl rfl rfl ?_ rfl (Nat.le_of_ble_eq_true rfl) rfl (awake_ok) ?_; (focus kernel_rfl))
            | (refine CWr.call (f := 10) rfl ?_ rfl (awake_ok) (fun _ _ h => h) ?_ ?_ ?_; (focus kernel_rfl))
            | (refine AWL.callV (f := 14) rfl rfl rfl rfl ?_ (Nat.le_of_ble_eq_true rfl) rfl (all_ok _ hv1 hv2 _) ?_; (focus kernel_rfl))
            | (refine AWL.call (f := 14) rfl rfl rfl ?_ rfl (Nat.le_of_ble_eq_true rfl) rfl (all_ok _ hv1 hv2 _) ?_; (focus kernel_rfl))
            | (refine CWr.call (f := 14) rfl ?_ rfl (all_ok _ hv1 hv2 _) (fun _ _ h => h) ?_ ?_ ?_; (focus kernel_rfl))
            | (refine AWL.callV (f := 11) rfl rfl rfl rfl ?_ (Nat.le_of_ble_eq_true rfl) rfl (hof16) ?_; (focus kernel_rfl))
            | (refine AWL.call (f := 11) rfl rfl rfl ?_ rfl (Nat.le_of_ble_eq_true rfl) rfl (hof16) ?_; (focus kernel_rfl))
            | (refine CWr.call (f := 11) rfl ?_ rfl (hof16) (fun _ _ h => h) ?_ ?_ ?_; (focus kernel_rfl))
            | (refine AWL.callV (f := 11) rfl rfl rfl rfl ?_ (Nat.le_of_ble_eq_true rfl) rfl (hof64) ?_; (focus kernel_rfl))
            | (refine AWL.call (f := 11) rfl rfl rfl ?_ rfl (Nat.le_of_ble_eq_true rfl) rfl (hof64) ?_; (focus kernel_rfl))
            | (refine CWr.call (f := 11) rfl ?_ rfl (hof64) (fun _ _ h => h) ?_ ?_ ?_; (focus kernel_rfl))
            | fail) <;> (try ((first | show AWL _ _ _ _ _ | show AW _ _ _ _ | show FW _ _ _ _ _ _ _ _ _ _ | show CW _ _ _ _ _ _ _ _ _ _ _ _ | (rintro _ _ ⟨rfl, rfl⟩; (try refine And.intro rfl ?_) ; (try refine And.intro ⟨nvsB_spec rfl, (by repeat' (first | exact nvm_nil | refine nvm_cons ?_ ?_ | exact nv_nums _ _ | exact nv_all rfl | exact nv_vecC _))⟩ ?_))); (try (conv => arg -1; simp (disch := omega) only [NSX, Nat.reduceBEq, Nat.reduceAdd, Nat.reduceMul, Int.reduceToNat, Nat.reduceSub, TY, slx, take16, drop16, dz, nums_length, T1, T2, T3, row0, hC, hXl])))))
          | ((first | refine AWL.guard2 rfl rfl rfl rfl rfl rfl ?_ ?_ | refine CW.guard2 rfl rfl rfl rfl rfl rfl rfl rfl ?_ ?_) <;> (intro hc; (try simp only [Bool.not_true, Bool.not_false] at hc); first | (cases hc; done) | ((try simp only [hc]); (try simp only [beq_iff_eq, bne_iff_ne, decide_eq_true_eq, decide_eq_false_iff_not, beq_eq_false_iff_ne, bne_eq_false_iff_eq, ne_eq, Bool.not_eq_true, Bool.not_eq_false, Bool.not_eq_eq_eq_not, Bool.not_true, Bool.not_false, Decidable.not_not, Int.not_lt, Int.not_le] at hc); (try (exfalso; omega)); (try (guard_hyp hc : True; clear hc)))) <;> (try (first | (with_reducible show AWL _ _ _ _ (St.put _ _ _)) | (with_reducible show CW _ _ _ _ _ _ _ _ _ _ _ (St.put _ _ _))); (try (conv => arg -1; simp (disch := omega) only [NSX, Nat.reduceBEq, Nat.reduceAdd, Nat.reduceMul, Int.reduceToNat, Nat.reduceSub, TY, slx, take16, drop16, dz, nums_length, T1, T2, T3, row0, hC, hXl]))))
          | (refine AWL.guard2 rfl rfl rfl rfl rfl rfl (fun hc => ?_) ?_; (cases hc; done))
          | ((fail_if_success (show AW _ (.region 28 _ _) _ _)); (first | ((show AW _ (.region _ _ true) _ _); refine AW.calm false [] [194] (id := 28) hmix (by (repeat' (first | exact panOk_end | exact panOk_endM | refine panOk_then ?_ | refine panOk_block ?_ | refine QEq.pan (by assumption) ?_))) ?_ rfl ?_; (focus (as_aux_lemma => kernel_rfl))) | ((show AW _ (.region _ _ true) _ _); refine AW.calm false [] [] hmix (by (repeat' (first | exact panOk_end | exact panOk_endM | refine panOk_then ?_ | refine panOk_block ?_ | refine QEq.pan (by assumption) ?_))) ?_ rfl ?_; (focus (as_aux_lemma => kernel_rfl))) | refine AWL.guardU rfl rfl rfl rfl rfl rfl ?_ | refine CW.guardU rfl rfl rfl rfl rfl rfl rfl rfl ?_); (try (conv => arg -1; simp (disch := omega) only [NSX, Nat.reduceBEq, Nat.reduceAdd, Nat.reduceMul, Int.reduceToNat, Nat.reduceSub, TY, slx, take16, drop16, dz, nums_length, T1, T2, T3, row0, hC, hXl])))
          | refine CW.tail rfl ?_
          | (refine AW.cond rfl (fun hc => ?_) (fun hc => ?_) <;> first | (cases hc; done) | ((try simp only [beq_iff_eq, bne_iff_ne, decide_eq_true_eq, decide_eq_false_iff_not, beq_eq_false_iff_ne, bne_eq_false_iff_eq, ne_eq, Bool.not_eq_true, Bool.not_eq_false, Bool.not_eq_eq_eq_not, Bool.not_true, Bool.not_false, Decidable.not_not, Int.not_lt, Int.not_le] at hc); (try (exfalso; omega)); (try (guard_hyp hc : True; clear hc))))
          | ((refine EndQ.mk rfl rfl rfl ?_ ?_ ?_; (focus (first | exact Or.inl rfl | exact Or.inr rfl))) <;> (try simp (disch := omega) only [NSX, Nat.reduceBEq, Nat.reduceAdd, Nat.reduceMul, Int.reduceToNat, Nat.reduceSub, TY, slx, take16, drop16, dz, nums_length, T1, T2, T3, row0, hC, hXl]))
          | (focus ((first | exact trivial | omega | (refine And.intro (by kernel_rfl) (And.intro ⟨_, (by first | exact nums_ints _ _ | rfl), (by first | exact nums_ints _ _ | rfl)⟩ (And.intro ?_ ?_)) <;> (first | rfl | assumption | (simp only [nums_length]; omega) | omega)) | (refine And.intro ?_ (And.intro ?_ ?_); (focus kernel_rfl); (focus kernel_rfl); (focus kernel_rfl)) | ((show newKs _ _ _ = true); kernel_rfl) | ((show FitV _ _ _ _ _ _); (repeat' (first | exact trivial | exact Or.inr (Or.inl rfl) | exact Or.inl rfl | exact Or.inr (Or.inr rfl) | refine And.intro ?_ ?_)); done) | assumption | ((first | refine ld_nums i3 _ _ ?_ | refine ld_nums i29 _ _ ?_ | refine ld_nums i5 _ _ ?_ | refine at_nums i3 _ _ ?_ | refine at_nums i29 _ _ ?_ | refine at_nums i5 _ _ ?_); first | assumption | omega | (simp only [List.length_append]; omega)) | (simp only [byInt, makeC]; omega) | exact hbl.symm | exact hTl.symm | exact hh | exact hTlen | exact hlong | (simp only [List.length_replicate, List.length_append, List.length_cons, List.length_nil]; omega) | (show _ ≤ _; omega) | (simp only [List.length_take, List.length_drop, List.length_append, List.length_cons, List.length_nil]; omega) | ((repeat' (first | exact trivial | exact rfl | exact Nat.le_of_ble_eq_true rfl | refine And.intro ?_ ?_ | fail)); done) | ((try simp (disch := omega) only [NSX, Nat.reduceBEq, Nat.reduceAdd, Nat.reduceMul, Int.reduceToNat, Nat.reduceSub, TY, slx, take16, drop16, dz, nums_length, T1, T2, T3, row0, hC, hXl]); (repeat' (first | exact trivial | exact rfl | exact ⟨_, _, rfl⟩ | exact ⟨_, rfl⟩ | exact Nat.le_of_ble_eq_true rfl | exact Nat.zero_lt_succ _ | omega | (simp only [nums_length, toB_len] at *; omega) | refine And.intro ?_ ?_ | fail)); done)); done))
          | fail)
        refine AW.frz 13 ?_
        try simp (disch := omega) only [NSX, Nat.reduceBEq, Nat.reduceAdd, Nat.reduceMul, Int.reduceToNat, Nat.reduceSub, TY, slx, take16, drop16, dz, nums_length, T1, T2, T3, row0, hc8, hAt]
        by_cases hn0 : hs.length = 0
        · have hchk : True := by simp only [TY, slx, take16, drop16, dz, nums_length, T1, T2, T3, row0, hc8, hAt, hHt, hCt, hC, hXl, h8, hbl, e8, hv1, eq_self, decide_true]
          repeat' (first
            | (refine AWL.deadAt 150 148 14 9014 rfl rfl rfl ?_; unfold St.dead; (try (conv => arg -1; simp (disch := omega) only [NSX, Nat.reduceBEq, Nat.reduceAdd, Nat.reduceMul, Int.reduceToNat, Nat.reduceSub, TY, slx, take16, drop16, dz, nums_length, T1, T2, T3, row0, hc8, hAt, hHt, hCt, hC, hXl, h8, hbl, e8, hv1, eq_self, decide_true])))
            | (refine AWL.deadAt 153 151 12 9012 rfl rfl rfl ?_; unfold St.dead; (try (conv => arg -1; simp (disch := omega) only [NSX, Nat.reduceBEq, Nat.reduceAdd, Nat.reduceMul, Int.reduceToNat, Nat.reduceSub, TY, slx, take16, drop16, dz, nums_length, T1, T2, T3, row0, hc8, hAt, hHt, hCt, hC, hXl, h8, hbl, e8, hv1, eq_self, decide_true])))
            | (refine AWL.opN (sl := SL) rfl rfl rfl trivial ?_; (try (conv => arg -1; simp (disch := omega) only [NSX, Nat.reduceBEq, Nat.reduceAdd, Nat.reduceMul, Int.reduceToNat, Nat.reduceSub, TY, slx, take16, drop16, dz, nums_length, T1, T2, T3, row0, hc8, hAt, hHt, hCt, hC, hXl, h8, hbl, e8, hv1, eq_self, decide_true])))
            | (refine AW.seqQ ?_; intro Qn hQn)
            | (refine AW.blockQ ?_; intro Qn hQn)
            | refine AW.region ?_
            | ((first | refine AW.skip ?_ | refine AW.ret ?_ | refine AW.exit ?_ | refine AWL.nil ?_ | refine CW.nil ?_); (repeat (first | refine QEq.mp (by assumption) ?_ | simp only [thenQ, Go.Abs.blockQ, ↓reduceIte, Nat.reduceEqDiff])))
            | refine FW.nil ?_
            | refine FW.pass rfl rfl ?_
            | refine FW.go rfl ?_
            | refine CW.skip rfl rfl ?_
            | refine CW.step rfl rfl rfl rfl rfl ?_
            | ((first
              | (refine AWL.boxF (t := 25) rfl rfl rfl rfl rfl ?_)
              | (refine AWL.allocF (t := 25) rfl rfl rfl rfl rfl rfl ?_)
              | (refine CWr.allocF (t := 25) rfl rfl rfl ?_ ?_)
              | (refine AWL.op (sl := SL) rfl rfl ?_ ?_)
              | (refine FW.float rfl rfl rfl rfl rfl ?_)
              | (refine CWr.op rfl ?_ ?_ ?_)
              | (refine CWr.assign rfl ?_ ?_)
              | (refine CWr.alloc rfl rfl rfl rfl ?_)
              | (refine CWr.build rfl rfl rfl rfl ?_ rfl rfl rfl ?_)
              | (refine AWL.callA (f := 30) rfl rfl rfl ?_ (Nat.le_of_ble_eq_true rfl) ?_ (htake) rfl ?_; (focus kernel_rfl); (focus (simp (disch := omega) only [VW, List.toList_toArray, List.map_cons, List.map_nil, NSX, Nat.reduceBEq, Nat.reduceAdd, Nat.reduceMul, Int.reduceToNat, Nat.reduceSub, TY, slx, take16, drop16, dz, nums_length, T1, T2, T3, row0, hc8, hAt, hHt, hCt, hC, hXl, h8, hbl, e8, hv1, eq_self, decide_true]; (try exact rfl); done)))
              | (refine CWr.callA (f := 30) rfl ?_ ?_ (htake) rfl (fun _ _ h => h) rfl ⟨nvsB_spec rfl, (by repeat' (first | exact nvm_nil | refine nvm_cons ?_ ?_ | exact nv_nums _ _ | exact nv_all rfl | exact nv_vecC _))⟩ ?_ ?_ ?_; (focus kernel_rfl); (focus (simp (disch := omega) only [VW, List.toList_toArray, List.map_cons, List.map_nil, NSX, Nat.reduceBEq, Nat.reduceAdd, Nat.reduceMul, Int.reduceToNat, Nat.reduceSub, TY, slx, take16, drop16, dz, nums_length, T1, T2, T3, row0, hc8, hAt, hHt, hCt, hC, hXl, h8, hbl, e8, hv1, eq_self, decide_true]; (try exact rfl); done)))
              | (refine AWL.callA (f := 28) rfl rfl rfl ?_ (Nat.le_of_ble_eq_true rfl) ?_ (hput) rfl ?_; (focus kernel_rfl); (focus (simp (disch := omega) only [VW, List.toList_toArray, List.map_cons, List.map_nil, NSX, Nat.reduceBEq, Nat.reduceAdd, Nat.reduceMul, Int.reduceToNat, Nat.reduceSub, TY, slx, take16, drop16, dz, nums_length, T1, T2, T3, row0, hc8, hAt, hHt, hCt, hC, hXl, h8, hbl, e8, hv1, eq_self, decide_true]; (try exact rfl); done)))
              | (refine CWr.callA (f := 28) rfl ?_ ?_ (hput) rfl (fun _ _ h => h) rfl ⟨nvsB_spec rfl, (by repeat' (first | exact nvm_nil | refine nvm_cons ?_ ?_ | exact nv_nums _ _ | exact nv_all rfl | exact nv_vecC _))⟩ ?_ ?_ ?_; (focus kernel_rfl); (focus (simp (disch := omega) only [VW, List.toList_toArray, List.map_cons, List.map_nil, NSX, Nat.reduceBEq, Nat.reduceAdd, Nat.reduceMul, Int.reduceToNat, Nat.reduceSub, TY, slx, take16, drop16, dz, nums_length, T1, T2, T3, row0, hc8, hAt, hHt, hCt, hC, hXl, h8, hbl, e8, hv1, eq_self, decide_true]; (try exact rfl); done)))
              | (refine AWL.callA (f := 24) rfl rfl rfl ?_ (Nat.le_of_ble_eq_true rfl) ?_ (hsame) rfl ?_; (focus kernel_rfl); (focus (simp (disch := omega) only [VW, List.toList_toArray, List.map_cons, List.map_nil, NSX, Nat.reduceBEq, Nat.reduceAdd, Nat.reduceMul, Int.reduceToNat, Nat.reduceSub, TY, slx, take16, drop16, dz, nums_length, T1, T2, T3, row0, hc8, hAt, hHt, hCt, hC, hXl, h8, hbl, e8, hv1, eq_self, decide_true]; (try exact rfl); done)))
              | (refine CWr.callA (f := 24) rfl ?_ ?_ (hsame) rfl (fun _ _ h => h) rfl ⟨nvsB_spec rfl, (by repeat' (first | exact nvm_nil | refine nvm_cons ?_ ?_ | exact nv_nums _ _ | exact nv_all rfl | exact nv_vecC _))⟩ ?_ ?_ ?_; (focus kernel_rfl); (focus (simp (disch := omega) only [VW, List.toList_toArray, List.map_cons, List.map_nil, NSX, Nat.reduceBEq, Nat.reduceAdd, Nat.reduceMul, Int.reduceToNat, Nat.reduceSub, TY, slx, take16, drop16, dz, nums_length, T1, T2, T3, row0, hc8, hAt, hHt, hCt, hC, hXl, h8, hbl, e8, hv1, eq_self, decide_true]; (try exact rfl); done)))
              | (refine AWL.callA (f := 32) rfl rfl rfl ?_ (Nat.le_of_ble_eq_true rfl) ?_ (hvecs) rfl ?_; (focus kernel_rfl); (focus (simp (disch := omega) only [VW, List.toList_toArray, List.map_cons, List.map_nil, NSX, Nat.reduceBEq, Nat.reduceAdd, Nat.reduceMul, Int.reduceToNat, Nat.reduceSub, TY, slx, take16, drop16, dz, nums_length, T1, T2, T3, row0, hc8, hAt, hHt, hCt, hC, hXl, h8, hbl, e8, hv1, eq_self, decide_true]; (try exact rfl); done)))
              | (refine CWr.callA (f := 32) rfl ?_ ?_ (hvecs) rfl (fun _ _ h => h) rfl ⟨nvsB_spec rfl, (by repeat' (first | exact nvm_nil | refine nvm_cons ?_ ?_ | exact nv_nums _ _ | exact nv_all rfl | exact nv_vecC _))⟩ ?_ ?_ ?_; (focus kernel_rfl); (focus (simp (disch := omega) only [VW, List.toList_toArray, List.map_cons, List.map_nil, NSX, Nat.reduceBEq, Nat.reduceAdd, Nat.reduceMul, Int.reduceToNat, Nat.reduceSub, TY, slx, take16, drop16, dz, nums_length, T1, T2, T3, row0, hc8, hAt, hHt, hCt, hC, hXl, h8, hbl, e8, hv1, eq_self, decide_true]; (try exact rfl); done)))
              | ((show AWL _ _ ({ dst := _, op := _, type := _, pos := _, after := _, guard := none } :: _) _ _); refine AWL.frzA rfl rfl ?_)
              | (refine AWL.callV (f := 10) rfl rfl rfl rfl ?_ (Nat.le_of_ble_eq_true rfl) rfl (awake_ok) ?_; (focus kernel_rfl))
              | (refine AWL.call (f := 10) rfl rfl rfl ?_ rfl (Nat.le_of_ble_eq_true rfl) rfl (awake_ok) ?_; (focus kernel_rfl))
              | (refine CWr.call (f := 10) rfl ?_ rfl (awake_ok) (fun _ _ h => h) ?_ ?_ ?_; (focus kernel_rfl))
              | (refine AWL.callV (f := 14) rfl rfl rfl rfl ?_ (Nat.le_of_ble_eq_true rfl) rfl (all_ok _ hv1 hv2 _) ?_; (focus kernel_rfl))
              | (refine AWL.call (f := 14) rfl rfl rfl ?_ rfl (Nat.le_of_ble_eq_true rfl) rfl (all_ok _ hv1 hv2 _) ?_; (focus kernel_rfl))
              | (refine CWr.call (f := 14) rfl ?_ rfl (all_ok _ hv1 hv2 _) (fun _ _ h => h) ?_ ?_ ?_; (focus kernel_rfl))
              | (refine AWL.callV (f := 11) rfl rfl rfl rfl ?_ (Nat.le_of_ble_eq_true rfl) rfl (hof16) ?_; (focus kernel_rfl))
              | (refine AWL.call (f := 11) rfl rfl rfl ?_ rfl (Nat.le_of_ble_eq_true rfl) rfl (hof16) ?_; (focus kernel_rfl))
              | (refine CWr.call (f := 11) rfl ?_ rfl (hof16) (fun _ _ h => h) ?_ ?_ ?_; (focus kernel_rfl))
              | (refine AWL.callV (f := 11) rfl rfl rfl rfl ?_ (Nat.le_of_ble_eq_true rfl) rfl (hof64) ?_; (focus kernel_rfl))
              | (refine AWL.call (f := 11) rfl rfl rfl ?_ rfl (Nat.le_of_ble_eq_true rfl) rfl (hof64) ?_; (focus kernel_rfl))
              | (refine CWr.call (f := 11) rfl ?_ rfl (hof64) (fun _ _ h => h) ?_ ?_ ?_; (focus kernel_rfl))
              | fail) <;> (try ((first | show AWL _ _ _ _ _ | show AW _ _ _ _ | show FW _ _ _ _ _ _ _ _ _ _ | show CW _ _ _ _ _ _ _ _ _ _ _ _ | (rintro _ _ ⟨rfl, rfl⟩; (try refine And.intro rfl ?_) ; (try refine And.intro ⟨nvsB_spec rfl, (by repeat' (first | exact nvm_nil | refine nvm_cons ?_ ?_ | exact nv_nums _ _ | exact nv_all rfl | exact nv_vecC _))⟩ ?_))); (try (conv => arg -1; simp (disch := omega) only [NSX, Nat.reduceBEq, Nat.reduceAdd, Nat.reduceMul, Int.reduceToNat, Nat.reduceSub, TY, slx, take16, drop16, dz, nums_length, T1, T2, T3, row0, hc8, hAt, hHt, hCt, hC, hXl, h8, hbl, e8, hv1, eq_self, decide_true])))))
            | ((first | refine AWL.guard2 rfl rfl rfl rfl rfl rfl ?_ ?_ | refine CW.guard2 rfl rfl rfl rfl rfl rfl rfl rfl ?_ ?_) <;> (intro hc; (try simp only [Bool.not_true, Bool.not_false] at hc); first | (cases hc; done) | ((try simp only [hc]); (try simp only [beq_iff_eq, bne_iff_ne, decide_eq_true_eq, decide_eq_false_iff_not, beq_eq_false_iff_ne, bne_eq_false_iff_eq, ne_eq, Bool.not_eq_true, Bool.not_eq_false, Bool.not_eq_eq_eq_not, Bool.not_true, Bool.not_false, Decidable.not_not, Int.not_lt, Int.not_le] at hc); (try (exfalso; omega)); (try (guard_hyp hc : True; clear hc)))) <;> (try (first | (with_reducible show AWL _ _ _ _ (St.put _ _ _)) | (with_reducible show CW _ _ _ _ _ _ _ _ _ _ _ (St.put _ _ _))); (try (conv => arg -1; simp (disch := omega) only [NSX, Nat.reduceBEq, Nat.reduceAdd, Nat.reduceMul, Int.reduceToNat, Nat.reduceSub, TY, slx, take16, drop16, dz, nums_length, T1, T2, T3, row0, hc8, hAt, hHt, hCt, hC, hXl, h8, hbl, e8, hv1, eq_self, decide_true]))))
            | (refine AWL.guard2 rfl rfl rfl rfl rfl rfl (fun hc => ?_) ?_; (cases hc; done))
            | ((first | ((show AW _ (.region _ _ true) _ _); refine AW.calm false [] [194] (id := 28) hmix (by (repeat' (first | exact panOk_end | exact panOk_endM | refine panOk_then ?_ | refine panOk_block ?_ | refine QEq.pan (by assumption) ?_))) ?_ rfl ?_; (focus (as_aux_lemma => kernel_rfl))) | ((show AW _ (.region _ _ true) _ _); refine AW.calm false [] [] hmix (by (repeat' (first | exact panOk_end | exact panOk_endM | refine panOk_then ?_ | refine panOk_block ?_ | refine QEq.pan (by assumption) ?_))) ?_ rfl ?_; (focus (as_aux_lemma => kernel_rfl))) | refine AWL.guardU rfl rfl rfl rfl rfl rfl ?_ | refine CW.guardU rfl rfl rfl rfl rfl rfl rfl rfl ?_); (try (conv => arg -1; simp (disch := omega) only [NSX, Nat.reduceBEq, Nat.reduceAdd, Nat.reduceMul, Int.reduceToNat, Nat.reduceSub, TY, slx, take16, drop16, dz, nums_length, T1, T2, T3, row0, hc8, hAt, hHt, hCt, hC, hXl, h8, hbl, e8, hv1, eq_self, decide_true])))
            | refine CW.tail rfl ?_
            | (refine AW.cond rfl (fun hc => ?_) (fun hc => ?_) <;> first | (cases hc; done) | ((try simp only [beq_iff_eq, bne_iff_ne, decide_eq_true_eq, decide_eq_false_iff_not, beq_eq_false_iff_ne, bne_eq_false_iff_eq, ne_eq, Bool.not_eq_true, Bool.not_eq_false, Bool.not_eq_eq_eq_not, Bool.not_true, Bool.not_false, Decidable.not_not, Int.not_lt, Int.not_le] at hc); (try (exfalso; omega)); (try (guard_hyp hc : True; clear hc))))
            | ((refine EndQ.mk rfl rfl rfl ?_ ?_ ?_; (focus (first | exact Or.inl rfl | exact Or.inr rfl))) <;> (try simp (disch := omega) only [NSX, Nat.reduceBEq, Nat.reduceAdd, Nat.reduceMul, Int.reduceToNat, Nat.reduceSub, TY, slx, take16, drop16, dz, nums_length, T1, T2, T3, row0, hc8, hAt, hHt, hCt, hC, hXl, h8, hbl, e8, hv1, eq_self, decide_true]))
            | (focus ((first | exact trivial | omega | (refine And.intro (by kernel_rfl) (And.intro ⟨_, (by first | exact nums_ints _ _ | rfl), (by first | exact nums_ints _ _ | rfl)⟩ (And.intro ?_ ?_)) <;> (first | rfl | assumption | (simp only [nums_length]; omega) | omega)) | (refine And.intro ?_ (And.intro ?_ ?_); (focus kernel_rfl); (focus kernel_rfl); (focus kernel_rfl)) | ((show newKs _ _ _ = true); kernel_rfl) | ((show FitV _ _ _ _ _ _); (repeat' (first | exact trivial | exact Or.inr (Or.inl rfl) | exact Or.inl rfl | exact Or.inr (Or.inr rfl) | refine And.intro ?_ ?_)); done) | assumption | ((first | refine ld_nums i3 _ _ ?_ | refine ld_nums i29 _ _ ?_ | refine ld_nums i5 _ _ ?_ | refine at_nums i3 _ _ ?_ | refine at_nums i29 _ _ ?_ | refine at_nums i5 _ _ ?_); first | assumption | omega | (simp only [List.length_append]; omega)) | (simp only [byInt, makeC]; omega) | exact hbl.symm | exact hTl.symm | exact hh | exact hTlen | exact hlong | (simp only [List.length_replicate, List.length_append, List.length_cons, List.length_nil]; omega) | (show _ ≤ _; omega) | (simp only [List.length_take, List.length_drop, List.length_append, List.length_cons, List.length_nil]; omega) | ((repeat' (first | exact trivial | exact rfl | exact Nat.le_of_ble_eq_true rfl | refine And.intro ?_ ?_ | fail)); done) | ((try simp (disch := omega) only [NSX, Nat.reduceBEq, Nat.reduceAdd, Nat.reduceMul, Int.reduceToNat, Nat.reduceSub, TY, slx, take16, drop16, dz, nums_length, T1, T2, T3, row0, hc8, hAt, hHt, hCt, hC, hXl, h8, hbl, e8, hv1, eq_self, decide_true]); (repeat' (first | exact trivial | exact rfl | exact ⟨_, _, rfl⟩ | exact ⟨_, rfl⟩ | exact Nat.le_of_ble_eq_true rfl | exact Nat.zero_lt_succ _ | omega | (simp only [nums_length, toB_len] at *; omega) | refine And.intro ?_ ?_ | fail)); done)); done))
            | fail)
          all_goals first | exact ⟨trivial, trivial⟩ | exact ⟨rfl, trivial⟩ | exact ⟨rfl, rfl⟩ | exact ⟨trivial, rfl⟩ | (exfalso; omega) | trace_state
        · have hcb0 := vec_load hbv (k := 0) (by omega)
          have hcr0 := vec_room hbv (k := 0) (by omega)
          have hcl0 := (vec_at hbv (k := 0) (by omega)).1
          rw [hwat hn0] at hcb0 hcl0
          rw [Nat.zero_mul, List.drop_zero] at hcb0 hcr0
          have hof64 := of_at 1 64 [hs.getD 0 0] rfl (by intro x hx; rw [List.mem_singleton] at hx; subst hx; exact (hh _ (getD_mem (by omega))).1) (by simp)
          rw [of64'] at hof64
          have hchk : True := by simp only [TY, slx, take16, drop16, dz, nums_length, T1, T2, T3, row0, hc8, hAt, hHt, hCt, hC, hXl, h8, hbl, e8, hv1, hcb0, hcl0, take_join, hcb, eq_self, decide_true]
          repeat' (first
            | (refine AWL.deadAt 150 148 14 9014 rfl rfl rfl ?_; unfold St.dead; (try (conv => arg -1; simp (disch := omega) only [NSX, Nat.reduceBEq, Nat.reduceAdd, Nat.reduceMul, Int.reduceToNat, Nat.reduceSub, TY, slx, take16, drop16, dz, nums_length, T1, T2, T3, row0, hc8, hAt, hHt, hCt, hC, hXl, h8, hbl, e8, hv1, hcb0, hcl0, take_join, hcb, eq_self, decide_true])))
            | (refine AWL.deadAt 153 151 12 9012 rfl rfl rfl ?_; unfold St.dead; (try (conv => arg -1; simp (disch := omega) only [NSX, Nat.reduceBEq, Nat.reduceAdd, Nat.reduceMul, Int.reduceToNat, Nat.reduceSub, TY, slx, take16, drop16, dz, nums_length, T1, T2, T3, row0, hc8, hAt, hHt, hCt, hC, hXl, h8, hbl, e8, hv1, hcb0, hcl0, take_join, hcb, eq_self, decide_true])))
            | (refine AWL.opN (sl := SL) rfl rfl rfl trivial ?_; (try (conv => arg -1; simp (disch := omega) only [NSX, Nat.reduceBEq, Nat.reduceAdd, Nat.reduceMul, Int.reduceToNat, Nat.reduceSub, TY, slx, take16, drop16, dz, nums_length, T1, T2, T3, row0, hc8, hAt, hHt, hCt, hC, hXl, h8, hbl, e8, hv1, hcb0, hcl0, take_join, hcb, eq_self, decide_true])))
            | (refine AW.seqQ ?_; intro Qn hQn)
            | (refine AW.blockQ ?_; intro Qn hQn)
            | refine AW.region ?_
            | ((first | refine AW.skip ?_ | refine AW.ret ?_ | refine AW.exit ?_ | refine AWL.nil ?_ | refine CW.nil ?_); (repeat (first | refine QEq.mp (by assumption) ?_ | simp only [thenQ, Go.Abs.blockQ, ↓reduceIte, Nat.reduceEqDiff])))
            | refine FW.nil ?_
            | refine FW.pass rfl rfl ?_
            | refine FW.go rfl ?_
            | refine CW.skip rfl rfl ?_
            | refine CW.step rfl rfl rfl rfl rfl ?_
            | ((first
              | (refine AWL.boxF (t := 25) rfl rfl rfl rfl rfl ?_)
              | (refine AWL.allocF (t := 25) rfl rfl rfl rfl rfl rfl ?_)
              | (refine CWr.allocF (t := 25) rfl rfl rfl ?_ ?_)
              | (refine AWL.op (sl := SL) rfl rfl ?_ ?_)
              | (refine FW.float rfl rfl rfl rfl rfl ?_)
              | (refine CWr.op rfl ?_ ?_ ?_)
              | (refine CWr.assign rfl ?_ ?_)
              | (refine CWr.alloc rfl rfl rfl rfl ?_)
              | (refine CWr.build rfl rfl rfl rfl ?_ rfl rfl rfl ?_)
              | (refine AWL.callA (f := 30) rfl rfl rfl ?_ (Nat.le_of_ble_eq_true rfl) ?_ (htake) rfl ?_; (focus kernel_rfl); (focus (simp (disch := omega) only [VW, List.toList_toArray, List.map_cons, List.map_nil, NSX, Nat.reduceBEq, Nat.reduceAdd, Nat.reduceMul, Int.reduceToNat, Nat.reduceSub, TY, slx, take16, drop16, dz, nums_length, T1, T2, T3, row0, hc8, hAt, hHt, hCt, hC, hXl, h8, hbl, e8, hv1, hcb0, hcl0, take_join, hcb, eq_self, decide_true]; (try exact rfl); done)))
              | (refine CWr.callA (f := 30) rfl ?_ ?_ (htake) rfl (fun _ _ h => h) rfl ⟨nvsB_spec rfl, (by repeat' (first | exact nvm_nil | refine nvm_cons ?_ ?_ | exact nv_nums _ _ | exact nv_all rfl | exact nv_vecC _))⟩ ?_ ?_ ?_; (focus kernel_rfl); (focus (simp (disch := omega) only [VW, List.toList_toArray, List.map_cons, List.map_nil, NSX, Nat.reduceBEq, Nat.reduceAdd, Nat.reduceMul, Int.reduceToNat, Nat.reduceSub, TY, slx, take16, drop16, dz, nums_length, T1, T2, T3, row0, hc8, hAt, hHt, hCt, hC, hXl, h8, hbl, e8, hv1, hcb0, hcl0, take_join, hcb, eq_self, decide_true]; (try exact rfl); done)))
              | (refine AWL.callA (f := 28) rfl rfl rfl ?_ (Nat.le_of_ble_eq_true rfl) ?_ (hput) rfl ?_; (focus kernel_rfl); (focus (simp (disch := omega) only [VW, List.toList_toArray, List.map_cons, List.map_nil, NSX, Nat.reduceBEq, Nat.reduceAdd, Nat.reduceMul, Int.reduceToNat, Nat.reduceSub, TY, slx, take16, drop16, dz, nums_length, T1, T2, T3, row0, hc8, hAt, hHt, hCt, hC, hXl, h8, hbl, e8, hv1, hcb0, hcl0, take_join, hcb, eq_self, decide_true]; (try exact rfl); done)))
              | (refine CWr.callA (f := 28) rfl ?_ ?_ (hput) rfl (fun _ _ h => h) rfl ⟨nvsB_spec rfl, (by repeat' (first | exact nvm_nil | refine nvm_cons ?_ ?_ | exact nv_nums _ _ | exact nv_all rfl | exact nv_vecC _))⟩ ?_ ?_ ?_; (focus kernel_rfl); (focus (simp (disch := omega) only [VW, List.toList_toArray, List.map_cons, List.map_nil, NSX, Nat.reduceBEq, Nat.reduceAdd, Nat.reduceMul, Int.reduceToNat, Nat.reduceSub, TY, slx, take16, drop16, dz, nums_length, T1, T2, T3, row0, hc8, hAt, hHt, hCt, hC, hXl, h8, hbl, e8, hv1, hcb0, hcl0, take_join, hcb, eq_self, decide_true]; (try exact rfl); done)))
              | (refine AWL.callA (f := 24) rfl rfl rfl ?_ (Nat.le_of_ble_eq_true rfl) ?_ (hsame) rfl ?_; (focus kernel_rfl); (focus (simp (disch := omega) only [VW, List.toList_toArray, List.map_cons, List.map_nil, NSX, Nat.reduceBEq, Nat.reduceAdd, Nat.reduceMul, Int.reduceToNat, Nat.reduceSub, TY, slx, take16, drop16, dz, nums_length, T1, T2, T3, row0, hc8, hAt, hHt, hCt, hC, hXl, h8, hbl, e8, hv1, hcb0, hcl0, take_join, hcb, eq_self, decide_true]; (try exact rfl); done)))
              | (refine CWr.callA (f := 24) rfl ?_ ?_ (hsame) rfl (fun _ _ h => h) rfl ⟨nvsB_spec rfl, (by repeat' (first | exact nvm_nil | refine nvm_cons ?_ ?_ | exact nv_nums _ _ | exact nv_all rfl | exact nv_vecC _))⟩ ?_ ?_ ?_; (focus kernel_rfl); (focus (simp (disch := omega) only [VW, List.toList_toArray, List.map_cons, List.map_nil, NSX, Nat.reduceBEq, Nat.reduceAdd, Nat.reduceMul, Int.reduceToNat, Nat.reduceSub, TY, slx, take16, drop16, dz, nums_length, T1, T2, T3, row0, hc8, hAt, hHt, hCt, hC, hXl, h8, hbl, e8, hv1, hcb0, hcl0, take_join, hcb, eq_self, decide_true]; (try exact rfl); done)))
              | (refine AWL.callA (f := 32) rfl rfl rfl ?_ (Nat.le_of_ble_eq_true rfl) ?_ (hvecs) rfl ?_; (focus kernel_rfl); (focus (simp (disch := omega) only [VW, List.toList_toArray, List.map_cons, List.map_nil, NSX, Nat.reduceBEq, Nat.reduceAdd, Nat.reduceMul, Int.reduceToNat, Nat.reduceSub, TY, slx, take16, drop16, dz, nums_length, T1, T2, T3, row0, hc8, hAt, hHt, hCt, hC, hXl, h8, hbl, e8, hv1, hcb0, hcl0, take_join, hcb, eq_self, decide_true]; (try exact rfl); done)))
              | (refine CWr.callA (f := 32) rfl ?_ ?_ (hvecs) rfl (fun _ _ h => h) rfl ⟨nvsB_spec rfl, (by repeat' (first | exact nvm_nil | refine nvm_cons ?_ ?_ | exact nv_nums _ _ | exact nv_all rfl | exact nv_vecC _))⟩ ?_ ?_ ?_; (focus kernel_rfl); (focus (simp (disch := omega) only [VW, List.toList_toArray, List.map_cons, List.map_nil, NSX, Nat.reduceBEq, Nat.reduceAdd, Nat.reduceMul, Int.reduceToNat, Nat.reduceSub, TY, slx, take16, drop16, dz, nums_length, T1, T2, T3, row0, hc8, hAt, hHt, hCt, hC, hXl, h8, hbl, e8, hv1, hcb0, hcl0, take_join, hcb, eq_self, decide_true]; (try exact rfl); done)))
              | ((show AWL _ _ ({ dst := _, op := _, type := _, pos := _, after := _, guard := none } :: _) _ _); refine AWL.frzA rfl rfl ?_)
              | (refine AWL.callV (f := 10) rfl rfl rfl rfl ?_ (Nat.le_of_ble_eq_true rfl) rfl (awake_ok) ?_; (focus kernel_rfl))
              | (refine AWL.call (f := 10) rfl rfl rfl ?_ rfl (Nat.le_of_ble_eq_true rfl) rfl (awake_ok) ?_; (focus kernel_rfl))
              | (refine CWr.call (f := 10) rfl ?_ rfl (awake_ok) (fun _ _ h => h) ?_ ?_ ?_; (focus kernel_rfl))
              | (refine AWL.callV (f := 14) rfl rfl rfl rfl ?_ (Nat.le_of_ble_eq_true rfl) rfl (all_ok _ hv1 hv2 _) ?_; (focus kernel_rfl))
              | (refine AWL.call (f := 14) rfl rfl rfl ?_ rfl (Nat.le_of_ble_eq_true rfl) rfl (all_ok _ hv1 hv2 _) ?_; (focus kernel_rfl))
              | (refine CWr.call (f := 14) rfl ?_ rfl (all_ok _ hv1 hv2 _) (fun _ _ h => h) ?_ ?_ ?_; (focus kernel_rfl))
              | (refine AWL.callV (f := 11) rfl rfl rfl rfl ?_ (Nat.le_of_ble_eq_true rfl) rfl (hof16) ?_; (focus kernel_rfl))
              | (refine AWL.call (f := 11) rfl rfl rfl ?_ rfl (Nat.le_of_ble_eq_true rfl) rfl (hof16) ?_; (focus kernel_rfl))
              | (refine CWr.call (f := 11) rfl ?_ rfl (hof16) (fun _ _ h => h) ?_ ?_ ?_; (focus kernel_rfl))
              | (refine AWL.callV (f := 11) rfl rfl rfl rfl ?_ (Nat.le_of_ble_eq_true rfl) rfl (hof64) ?_; (focus kernel_rfl))
              | (refine AWL.call (f := 11) rfl rfl rfl ?_ rfl (Nat.le_of_ble_eq_true rfl) rfl (hof64) ?_; (focus kernel_rfl))
              | (refine CWr.call (f := 11) rfl ?_ rfl (hof64) (fun _ _ h => h) ?_ ?_ ?_; (focus kernel_rfl))
              | fail) <;> (try ((first | show AWL _ _ _ _ _ | show AW _ _ _ _ | show FW _ _ _ _ _ _ _ _ _ _ | show CW _ _ _ _ _ _ _ _ _ _ _ _ | (rintro _ _ ⟨rfl, rfl⟩; (try refine And.intro rfl ?_) ; (try refine And.intro ⟨nvsB_spec rfl, (by repeat' (first | exact nvm_nil | refine nvm_cons ?_ ?_ | exact nv_nums _ _ | exact nv_all rfl | exact nv_vecC _))⟩ ?_))); (try (conv => arg -1; simp (disch := omega) only [NSX, Nat.reduceBEq, Nat.reduceAdd, Nat.reduceMul, Int.reduceToNat, Nat.reduceSub, TY, slx, take16, drop16, dz, nums_length, T1, T2, T3, row0, hc8, hAt, hHt, hCt, hC, hXl, h8, hbl, e8, hv1, hcb0, hcl0, take_join, hcb, eq_self, decide_true])))))
            | ((first | refine AWL.guard2 rfl rfl rfl rfl rfl rfl ?_ ?_ | refine CW.guard2 rfl rfl rfl rfl rfl rfl rfl rfl ?_ ?_) <;> (intro hc; (try simp only [Bool.not_true, Bool.not_false] at hc); first | (cases hc; done) | ((try simp only [hc]); (try simp only [beq_iff_eq, bne_iff_ne, decide_eq_true_eq, decide_eq_false_iff_not, beq_eq_false_iff_ne, bne_eq_false_iff_eq, ne_eq, Bool.not_eq_true, Bool.not_eq_false, Bool.not_eq_eq_eq_not, Bool.not_true, Bool.not_false, Decidable.not_not, Int.not_lt, Int.not_le] at hc); (try (exfalso; omega)); (try (guard_hyp hc : True; clear hc)))) <;> (try (first | (with_reducible show AWL _ _ _ _ (St.put _ _ _)) | (with_reducible show CW _ _ _ _ _ _ _ _ _ _ _ (St.put _ _ _))); (try (conv => arg -1; simp (disch := omega) only [NSX, Nat.reduceBEq, Nat.reduceAdd, Nat.reduceMul, Int.reduceToNat, Nat.reduceSub, TY, slx, take16, drop16, dz, nums_length, T1, T2, T3, row0, hc8, hAt, hHt, hCt, hC, hXl, h8, hbl, e8, hv1, hcb0, hcl0, take_join, hcb, eq_self, decide_true]))))
            | (refine AWL.guard2 rfl rfl rfl rfl rfl rfl (fun hc => ?_) ?_; (cases hc; done))
            | ((first | ((show AW _ (.region _ _ true) _ _); refine AW.calm false [] [194] (id := 28) hmix (by (repeat' (first | exact panOk_end | exact panOk_endM | refine panOk_then ?_ | refine panOk_block ?_ | refine QEq.pan (by assumption) ?_))) ?_ rfl ?_; (focus (as_aux_lemma => kernel_rfl))) | ((show AW _ (.region _ _ true) _ _); refine AW.calm false [] [] hmix (by (repeat' (first | exact panOk_end | exact panOk_endM | refine panOk_then ?_ | refine panOk_block ?_ | refine QEq.pan (by assumption) ?_))) ?_ rfl ?_; (focus (as_aux_lemma => kernel_rfl))) | refine AWL.guardU rfl rfl rfl rfl rfl rfl ?_ | refine CW.guardU rfl rfl rfl rfl rfl rfl rfl rfl ?_); (try (conv => arg -1; simp (disch := omega) only [NSX, Nat.reduceBEq, Nat.reduceAdd, Nat.reduceMul, Int.reduceToNat, Nat.reduceSub, TY, slx, take16, drop16, dz, nums_length, T1, T2, T3, row0, hc8, hAt, hHt, hCt, hC, hXl, h8, hbl, e8, hv1, hcb0, hcl0, take_join, hcb, eq_self, decide_true])))
            | refine CW.tail rfl ?_
            | (refine AW.cond rfl (fun hc => ?_) (fun hc => ?_) <;> first | (cases hc; done) | ((try simp only [beq_iff_eq, bne_iff_ne, decide_eq_true_eq, decide_eq_false_iff_not, beq_eq_false_iff_ne, bne_eq_false_iff_eq, ne_eq, Bool.not_eq_true, Bool.not_eq_false, Bool.not_eq_eq_eq_not, Bool.not_true, Bool.not_false, Decidable.not_not, Int.not_lt, Int.not_le] at hc); (try (exfalso; omega)); (try (guard_hyp hc : True; clear hc))))
            | ((refine EndQ.mk rfl rfl rfl ?_ ?_ ?_; (focus (first | exact Or.inl rfl | exact Or.inr rfl))) <;> (try simp (disch := omega) only [NSX, Nat.reduceBEq, Nat.reduceAdd, Nat.reduceMul, Int.reduceToNat, Nat.reduceSub, TY, slx, take16, drop16, dz, nums_length, T1, T2, T3, row0, hc8, hAt, hHt, hCt, hC, hXl, h8, hbl, e8, hv1, hcb0, hcl0, take_join, hcb, eq_self, decide_true]))
            | (focus ((first | exact trivial | omega | (refine And.intro (by kernel_rfl) (And.intro ⟨_, (by first | exact nums_ints _ _ | rfl), (by first | exact nums_ints _ _ | rfl)⟩ (And.intro ?_ ?_)) <;> (first | rfl | assumption | (simp only [nums_length]; omega) | omega)) | (refine And.intro ?_ (And.intro ?_ ?_); (focus kernel_rfl); (focus kernel_rfl); (focus kernel_rfl)) | ((show newKs _ _ _ = true); kernel_rfl) | ((show FitV _ _ _ _ _ _); (repeat' (first | exact trivial | exact Or.inr (Or.inl rfl) | exact Or.inl rfl | exact Or.inr (Or.inr rfl) | refine And.intro ?_ ?_)); done) | assumption | ((first | refine ld_nums i3 _ _ ?_ | refine ld_nums i29 _ _ ?_ | refine ld_nums i5 _ _ ?_ | refine at_nums i3 _ _ ?_ | refine at_nums i29 _ _ ?_ | refine at_nums i5 _ _ ?_); first | assumption | omega | (simp only [List.length_append]; omega)) | (simp only [byInt, makeC]; omega) | exact hbl.symm | exact hTl.symm | exact hh | exact hTlen | exact hlong | (simp only [List.length_replicate, List.length_append, List.length_cons, List.length_nil]; omega) | (show _ ≤ _; omega) | (simp only [List.length_take, List.length_drop, List.length_append, List.length_cons, List.length_nil]; omega) | ((repeat' (first | exact trivial | exact rfl | exact Nat.le_of_ble_eq_true rfl | refine And.intro ?_ ?_ | fail)); done) | ((try simp (disch := omega) only [NSX, Nat.reduceBEq, Nat.reduceAdd, Nat.reduceMul, Int.reduceToNat, Nat.reduceSub, TY, slx, take16, drop16, dz, nums_length, T1, T2, T3, row0, hc8, hAt, hHt, hCt, hC, hXl, h8, hbl, e8, hv1, hcb0, hcl0, take_join, hcb, eq_self, decide_true]); (repeat' (first | exact trivial | exact rfl | exact ⟨_, _, rfl⟩ | exact ⟨_, rfl⟩ | exact Nat.le_of_ble_eq_true rfl | exact Nat.zero_lt_succ _ | omega | (simp only [nums_length, toB_len] at *; omega) | refine And.intro ?_ ?_ | fail)); done)); done))
            | fail)
          all_goals first | exact ⟨trivial, trivial⟩ | exact ⟨rfl, trivial⟩ | exact ⟨rfl, rfl⟩ | exact ⟨trivial, rfl⟩ | (exfalso; omega) | trace_state
end Go.Proofs.Ytopdealfmajbhaa
