/- ExprNest. -/
import Derived.Test.YteppkbaeacndiaaDP
import Derived.Test.YteppkbaeacndiaaDB
import Derived.Test.YteppkbaeacndiaaGCB
import Derived.Test.YteppkbaeacndiaaGArgs
import Derived.Test.YteppkbaeacndiaaNestP
import Derived.Test.YteppkbaeacndiaaGWP
set_option linter.unusedSimpArgs false
set_option linter.unusedVariables false
namespace Go.Proofs.Yteppkbaeacndiaa
set_option maxRecDepth 20000
open Go Go.Abs Nat
attribute [local irreducible] AW AWL AC FW CW CWr IntKind.wrap
def T8n (N : Nat) (K : Int) (k : Nat) (b : List Int) (c : List Ins) : St := { n := 136, slots := [(0, .int .u8 (N : Int)), (5, .int .i64 K), (6, .ref 6 0 b.length 1), (7, .ref 7 0 c.length 6), (8, .int .i64 (k : Int))], mem := [(6, ⟨true, nums .u8 b⟩), (7, ⟨true, nilC c⟩)] }
def T16n (N : Nat) (k : Nat) (b : List Int) (c : List Ins) : St := { n := 136, slots := [(0, .int .u8 (N : Int)), (6, .ref 6 0 b.length 1), (7, .ref 7 0 c.length 6), (14, .int .i64 (k : Int))], mem := [(6, ⟨true, nums .u8 b⟩), (7, ⟨true, nilC c⟩)] }
theorem ew_any {code : List Ins} {e : Int} (hi : ∀ i ∈ code, okIns i) (hz : szC code <= 10000000) (hn : ∀ i ∈ code, i.l = []) (hl : code.length <= 1048576) (he : (writeS code).2 = e) {n : Nat} (hnn : n = code.length) :
    AC Try.prog 13 [.view n 6 (nilC code)] (fun v m => v = .tup [.any, .int .i64 e] /\ m = []) := by
  subst hnn
  have hbl := bytP_le hi
  have h := (ewrite_ok code hi hl (by omega)).wk (args' := [.view code.length 6 (nilC code)]) (.cons (Wk.view (nilC_fk hn)) .nil)
  refine h.out fun v m hv => ⟨_, _, ⟨rfl, rfl⟩, fun S w w' u ho => ?_⟩
  rw [hv.1, hv.2, he] at ho
  exact ho.wk (Wk.tup (.cons (Wk.toAny _) (WkL.refl _)))
theorem er_any {b : List Int} {e : Int} (hb : bytes b) (hl : b.length <= 100000000) (he : (readS b 0).2.2 = e) {n : Nat} (hnn : n = b.length) :
    AC Try.prog 10 [.view n 1 (nums .u8 b), .int .i64 0] (fun v m => v = .tup [.any, .any, .int .i64 e] /\ m = []) := by
  subst hnn
  refine (eread_ok b hb hl 0).out fun v m hv => ⟨_, _, ⟨rfl, rfl⟩, fun S w w' u ho => ?_⟩
  rw [hv.1, hv.2, he] at ho
  exact ho.wk (Wk.tup (.cons (Wk.toAny _) (.cons (Wk.toAny _) (WkL.refl _))))
theorem MLNest.NM : type_of% @NSX /\ type_of% @St.keepS.eq_1 /\ type_of% @TY /\ type_of% @SLS /\ type_of% @nums_length /\ type_of% @T8n.eq_1 /\ type_of% @T16n.eq_1 /\ type_of% @blk.eq_1 /\ type_of% @end1.eq_1 /\ type_of% @nilI.eq_1 :=
  ⟨NSX, St.keepS.eq_1, @TY, @SLS, @nums_length, @T8n.eq_1, @T16n.eq_1, @blk.eq_1, @end1.eq_1, @nilI.eq_1⟩
open MLNest
theorem K1LNest.kp {P : Program} {c : Code} {Q : Exit -> St -> Prop} {st : St} (h : AW P c Q (st.keepS [0, 1, 4, 5, 6, 7, 8, 10, 13, 14, 15, 16, 17])) : AW P c Q st := AW.keepS _ h
theorem K1LNest.cl {p : Prop} (h : p := by
  first
    | (refine AWL.callA (f := 13) rfl rfl rfl ?_ (Nat.le_of_ble_eq_true rfl) ?_ (hw1) rfl ?_; (focus kernel_rfl); (focus (simp (disch := omega) only [VW, List.toList_toArray, List.map_cons, List.map_nil, NM, Nat.reduceBEq, reduceAdd, reduceMul, Int.reduceToNat, reduceSub, List.set_cons_zero, List.set_cons_succ, nx]; (try exact rfl); done)))
    | (refine AWL.callA (f := 10) rfl rfl rfl ?_ (Nat.le_of_ble_eq_true rfl) ?_ (hr1) rfl ?_; (focus kernel_rfl); (focus (simp (disch := omega) only [VW, List.toList_toArray, List.map_cons, List.map_nil, NM, Nat.reduceBEq, reduceAdd, reduceMul, Int.reduceToNat, reduceSub, List.set_cons_zero, List.set_cons_succ, nx]; (try exact rfl); done)))
    | refine AWL.frzG rfl rfl rfl ?_
    | refine AWL.cC (f := 9) cb9 rfl rfl rfl rfl rfl rfl (awake_ok) ?_
    | refine AWL.cC (f := 13) cb13 rfl rfl rfl rfl rfl rfl (hw3) ?_
    | refine AWL.cC (f := 10) cb10 rfl rfl rfl rfl rfl rfl (hr3) ?_
    | refine AWL.cC (f := 12) cb12 rfl rfl rfl rfl rfl rfl (hsm) ?_
  all_goals (apply_rules (newGoals := .nonDependentOnly) only [dep])
  all_goals constructor) : p := h
theorem K1LNest.sd {p : Prop} (h : p := by first | exact sde80d56) : p := h
open K1LNest in
set_option maxHeartbeats 6400000 in
theorem exprNest_ok (N : Nat) (hN : N <= 255) (p : Int) : AC Try.prog 7 [.int .u8 (N : Int), .int .i64 p] (fun r m => r = .bool true /\ m = []) := by
  have hw1 : True := trivial
  have hr1 : True := trivial
  have hw3 : True := trivial
  have hr3 : True := trivial
  have hsm : True := trivial
  have e1 : IntKind.u64.wrap p = p % 18446744073709551616 := wrap_unsigned (k := .u64) rfl _
  obtain ⟨K, hK, e2⟩ : ∃ K, isK K /\ IntKind.i64.wrap (2 + IntKind.i64.wrap ((p % 18446744073709551616).tmod 3)) = K := by
    have g1 : (p % 18446744073709551616).tmod 3 = (p % 18446744073709551616) % 3 := Int.tmod_eq_emod_of_nonneg (by omega)
    refine ⟨2 + (p % 18446744073709551616) % 3, by unfold isK; omega, ?_⟩
    rw [g1, wrap64_id ((p % 18446744073709551616) % 3) (by omega) (by omega), wrap64_id _ (by omega) (by omega)]
  have hK2 := hK
  unfold isK at hK2
  have e3 : IntKind.i64.wrap (N : Int) = N := wrap64_id _ (by omega) (by omega)
  have e4 : IntKind.u8.wrap K = K := wrap_in rfl (by omega) (by show _ < (256 : Int); omega)
  refine AC.enter Try.func7 rfl (Nat.le_of_ble_eq_true rfl) ?_
  simp only [Try.f7]
  have nx : type_of% @e1 /\ type_of% @e2 /\ True := ⟨@e1, ⟨@e2, trivial⟩⟩
  refine' ste586cc
  refine AW.loop [0, 5, 6, 7, 8] [6, 7] (fun m st => ∃ (k : Nat), st = T8n N K k (bN K k 0) (cN K k 0) /\ k <= N /\ m = N - k) ?_ ?_
  · exact ⟨_, 0, rfl, Nat.zero_le _, rfl⟩
  rintro m st ⟨k, rfl, hk, rfl⟩
  have hbl := bN_len K k 0
  have hcl := cN_len K k 0
  by_cases hkN : k < N
  · have e7 : IntKind.i64.wrap ((k : Int) + 1) = ((k + 1 : Nat) : Int) := wrap64_id _ (by omega) (by omega)
    have hlo : List.take (bN K k 0).length (bN K k 0) = bN K k 0 := List.take_length
    have hlc : List.take ((cN K k 0).length * 6) (nilC (cN K k 0)) = nilC (cN K k 0) := List.take_of_length_le (by rw [nilC_len]; omega)
    have hsn : nilC (cN K k 0) ++ [.int .i64 K, .int .i64 (-64), .int .i64 0, .int .u64 0, .int .u64 0, .nils] = nilC (cN K (k + 1) 0) := by rw [cN_up, nilC_snoc]; rfl
    have nx : type_of% @e3 /\ type_of% @e4 /\ type_of% @e7 /\ type_of% @hlo /\ type_of% @hlc /\ type_of% @hsn /\ True := ⟨@e3, ⟨@e4, ⟨@e7, ⟨@hlo, ⟨@hlc, ⟨@hsn, trivial⟩⟩⟩⟩⟩⟩
    refine' ste586cc
    all_goals first
      | exact ⟨N - (k + 1), by omega, k + 1, by rw [T8n, bN_up, List.length_append, cN_up, List.length_append]; rfl, by omega, rfl⟩
      | trace_state
  obtain rfl : k = N := by omega
  clear hk
  have hlo : List.take (bN K k 0).length (bN K k 0) = bN K k 0 := List.take_length
  have hlc : List.take ((cN K k 0).length * 6) (nilC (cN K k 0)) = nilC (cN K k 0) := List.take_of_length_le (by rw [nilC_len]; omega)
  have hw1 := ew_any (code := cN K k 0) (e := 1) (cN_ok hK) (by rw [cN_sz]; omega) cN_nil (by omega) (by rw [write_open hK]) rfl
  have hcs : ∃ f, (readS (bN K k 0) 0).2.2 = f /\ ((k <= 128 /\ f = 10) \/ (128 < k /\ f = 3)) := by
    by_cases h : k <= 128
    · exact ⟨10, by rw [read_open hK h], .inl ⟨h, rfl⟩⟩
    · exact ⟨3, by rw [read_deep hK (by omega)], .inr ⟨by omega, rfl⟩⟩
  obtain ⟨f, hf, hcs⟩ := hcs
  have hr1 := er_any (b := bN K k 0) (e := f) (bN_bytes hK k 0) (by omega) hf rfl
  have hby := bN_bytes hK k (k + 1)
  rcases hcs with ⟨h128, rfl⟩ | ⟨h128, rfl⟩
  case' inl =>
    have hw3 := (ewrite_ok (cN K k (k + 1)) (cN_ok hK) (by rw [cN_len]; omega) (by rw [cN_byt hK, bN_len]; omega)).wk (args' := [.view (cN K k (k + 1)).length 6 (nilC (cN K k (k + 1)))]) (.cons (Wk.view (nilC_fk cN_nil)) .nil)
    rw [write_full hK h128] at hw3
    have hr3 := eread_ok (bN K k (k + 1)) hby (by rw [bN_len]; omega) 0
    rw [read_full hK h128] at hr3
    have hsm := (same_ok (cN K k (k + 1)) (cN K k (k + 1)) (by rw [cN_len]; omega) (by rw [cN_len]; omega) (fun i hj => by rw [cN_nil i hj]; simp) (fun i hj => by rw [cN_nil i hj]; simp)).wk (args' := [.view (cN K k (k + 1)).length 6 (codeC (cN K k (k + 1))), .view (cN K k (k + 1)).length 6 (nilC (cN K k (k + 1)))]) (.cons (Wk.refl _) (.cons (Wk.view (nilC_fk cN_nil)) .nil))
    rw [decide_eq_true rfl] at hsm
  case' inr =>
    have hw3 := (ewrite_ok (cN K k (k + 1)) (cN_ok hK) (by rw [cN_len]; omega) (by rw [cN_byt hK, bN_len]; omega)).wk (args' := [.view (cN K k (k + 1)).length 6 (nilC (cN K k (k + 1)))]) (.cons (Wk.view (nilC_fk cN_nil)) .nil)
    rw [write_deep hK h128] at hw3
    have hr3 := eread_ok (bN K k (k + 1)) hby (by rw [bN_len]; omega) 0
    rw [read_deep hK h128] at hr3
  all_goals
    have nx : type_of% @e3 /\ type_of% @hlo /\ type_of% @hlc /\ True := ⟨@e3, ⟨@hlo, ⟨@hlc, trivial⟩⟩⟩
    refine' ste586cc
    refine AW.loop [0, 6, 7, 14] [6, 7] (fun m st => ∃ (j : Nat), st = T16n k j (bN K k j) (cN K k j) /\ j <= k + 1 /\ m = k + 1 - j) ?_ ?_
    · exact ⟨_, 0, rfl, Nat.zero_le _, rfl⟩
    rintro m st ⟨j, rfl, hj, rfl⟩
    clear hw1 hr1 hlo hlc
    have hbl := bN_len K k j
    have hcl := cN_len K k j
    have hlo : List.take (bN K k j).length (bN K k j) = bN K k j := List.take_length
    have hlc : List.take ((cN K k j).length * 6) (nilC (cN K k j)) = nilC (cN K k j) := List.take_of_length_le (by rw [nilC_len]; omega)
    by_cases hjN : j < k + 1
    · have e7 : IntKind.i64.wrap ((j : Int) + 1) = ((j + 1 : Nat) : Int) := wrap64_id _ (by omega) (by omega)
      have hsn : nilC (cN K k j) ++ [.int .i64 11, .int .i64 0, .int .i64 0, .int .u64 0, .int .u64 0, .nils] = nilC (cN K k (j + 1)) := by rw [cN_down, nilC_snoc]; rfl
      have e8 : True := trivial
      have nx : type_of% @e3 /\ type_of% @e4 /\ type_of% @e7 /\ type_of% @hlo /\ type_of% @hlc /\ type_of% @hsn /\ True := ⟨@e3, ⟨@e4, ⟨@e7, ⟨@hlo, ⟨@hlc, ⟨@hsn, trivial⟩⟩⟩⟩⟩⟩
      refine' ste586cc
      all_goals first
        | exact ⟨k + 1 - (j + 1), by omega, j + 1, by rw [T16n, bN_down, List.length_append, cN_down, List.length_append]; rfl, by omega, rfl⟩
        | trace_state
    · obtain rfl : j = k + 1 := by omega
      have nx : type_of% @e3 /\ type_of% @hlo /\ type_of% @hlc /\ type_of% @beq_self_eq_true.{0} /\ True := ⟨@e3, ⟨@hlo, ⟨@hlc, ⟨@beq_self_eq_true.{0}, trivial⟩⟩⟩⟩
      refine' ste586cc
      all_goals first | exact ⟨trivial, trivial⟩ | exact ⟨rfl, trivial⟩ | exact ⟨rfl, rfl⟩ | exact ⟨trivial, rfl⟩ | (exfalso; omega) | trace_state
end Go.Proofs.Yteppkbaeacndiaa
