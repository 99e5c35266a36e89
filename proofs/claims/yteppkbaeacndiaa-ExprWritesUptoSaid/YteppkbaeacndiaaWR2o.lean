/- constant: what it appends to is lent to it. -/
import Derived.Test.YteppkbaeacndiaaDP
import Derived.Test.YteppkbaeacndiaaDB
import Derived.Test.YteppkbaeacndiaaGCB
import Derived.Test.YteppkbaeacndiaaGWP
import Derived.Test.YteppkbaeacndiaaGEFld2
set_option linter.unusedSimpArgs false
set_option linter.unusedVariables false
namespace Go.Proofs.Yteppkbaeacndiaa
set_option maxRecDepth 20000
open Go Go.Abs Nat
attribute [local irreducible] AW AWL AC FW CW CWr IntKind.wrap
theorem ps_1 (x : Int) (h : -9223372036854775808 <= x /\ x <= 9223372036854775807) : AC Try.prog 43 [.view 1 1 (nums .i64 [x])] (fun r m => r = .view (putS x).length 1 (nums .u8 (putS x)) /\ m = []) := by
  have := (ps_ok [x] (fun y hy => by rw [List.mem_singleton.1 hy]; simp only [Int.reducePow]; omega) (by simp)).look (by simp [nums])
  have e : putSs [x] = putS x := by simp [putSs]
  rw [e] at this
  exact this
theorem pu_1 (x : Int) (h : 0 <= x /\ x < 18446744073709551616) : AC Try.prog 42 [.view 1 1 (nums .u64 [x])] (fun r m => r = .view (uB x).length 1 (nums .u8 (uB x)) /\ m = []) := by
  have := (pu_ok [x] (fun y hy => by rw [List.mem_singleton.1 hy]; exact ⟨h.1, by simp only [Int.reducePow]; omega⟩) (by simp)).look (by simp [nums])
  have e : putUs [x] = uB x := by unfold uB; rw [Int.emod_eq_of_lt h.1 h.2]; simp [putUs]
  rw [e] at this
  exact this
theorem MWR2o.NM : type_of% @NSX /\ type_of% @St.keepS.eq_1 /\ type_of% @TY /\ type_of% @SLS /\ type_of% @nums_length /\ type_of% @take16 :=
  ⟨NSX, St.keepS.eq_1, @TY, @SLS, @nums_length, @take16⟩
open MWR2o
theorem K1WR2o.kp {P : Program} {c : Code} {Q : Exit -> St -> Prop} {st : St} (h : AW P c Q (st.keepS [0, 1, 2, 4, 6, 7, 8, 9])) : AW P c Q st := AW.keepS _ h
theorem K1WR2o.cl {p : Prop} (h : p := by
  first
    | refine AWL.frzG rfl rfl rfl ?_
    | refine AWL.cC (f := 43) cb43 rfl rfl rfl rfl rfl rfl (hps) ?_
    | refine AWL.cC (f := 60) cb60 rfl rfl rfl rfl rfl rfl (hjn) ?_
  all_goals (apply_rules (newGoals := .nonDependentOnly) only [dep])
  all_goals constructor) : p := h
theorem K1WR2o.att {p : Prop} (h : p := by
  first
    | (first | (refine AT.takeM (L := (bA 13 0)) (L' := (bA 13 1)) 0 rfl rfl rfl rfl rfl panA (by decide +kernel) (by decide +kernel) ?_; (try (conv => arg -1; simp (disch := omega) only [NM, Nat.reduceBEq, reduceAdd, reduceMul, Int.reduceToNat, reduceSub, List.set_cons_zero, List.set_cons_succ, nx]))) | (refine AT.takeF (L := (bA 13 1)) (L' := (bA 13 3)) 1 rfl rfl rfl rfl rfl rfl rfl rfl panA (by decide +kernel) (by decide +kernel) ?_; (try (conv => arg -1; simp (disch := omega) only [NM, Nat.reduceBEq, reduceAdd, reduceMul, Int.reduceToNat, reduceSub, List.set_cons_zero, List.set_cons_succ, nx]))) | (refine AT.takeF (L := (bA 13 3)) (L' := (bA 13 259)) 8 rfl rfl rfl rfl rfl rfl rfl rfl panA (by decide +kernel) (by decide +kernel) ?_; (try (conv => arg -1; simp (disch := omega) only [NM, Nat.reduceBEq, reduceAdd, reduceMul, Int.reduceToNat, reduceSub, List.set_cons_zero, List.set_cons_succ, nx]))) | refine AT.step (L := (bA 13 259)) [2, 9] (by decide +kernel) (by decide) (memL2 ⟨_, (bA 13 263), rfl, (by decide +kernel), ?_⟩ ⟨_, (bA 13 771), rfl, (by decide +kernel), ?_⟩) | refine AT.step (L := (bA 13 771)) [2, 10] (by decide +kernel) (by decide) (memL2 ⟨_, (bA 13 775), rfl, (by decide +kernel), ?_⟩ ⟨_, (bA 13 1795), rfl, (by decide +kernel), ?_⟩) | refine AT.step (L := (bA 13 1795)) [2] (by decide +kernel) (by decide) (memL1 ⟨_, (bA 13 1799), rfl, (by decide +kernel), ?_⟩) | refine AT.step (L := (bA 13 1799)) [3] (by decide +kernel) (by decide) (memL1 ⟨_, (bA 13 1807), rfl, (by decide +kernel), ?_⟩) | refine AT.step (L := (bA 13 1807)) [4] (by decide +kernel) (by decide) (memL1 ⟨_, (bA 13 1823), rfl, (by decide +kernel), ?_⟩) | refine AT.step (L := (bA 13 1823)) [5] (by decide +kernel) (by decide) (memL1 ⟨_, (bA 13 1855), rfl, (by decide +kernel), ?_⟩) | refine AT.step (L := (bA 13 1855)) [6] (by decide +kernel) (by decide) (memL1 ⟨_, (bA 13 1919), rfl, (by decide +kernel), ?_⟩) | refine AT.step (L := (bA 13 1919)) [7] (by decide +kernel) (by decide) (memL1 ⟨_, (bA 13 2047), rfl, (by decide +kernel), ?_⟩) | refine AT.step (L := (bA 13 2047)) [11] (by decide +kernel) (by decide) (memL1 ⟨_, (bA 13 4095), rfl, (by decide +kernel), ?_⟩) | refine AT.step (L := (bA 13 4095)) [12] (by decide +kernel) (by decide) (memL1 ⟨_, (bA 13 8191), rfl, (by decide +kernel), ?_⟩) | refine AT.done (L := (bA 13 8191)) (by decide +kernel) ?_ | refine AT.step (L := (bA 13 775)) [3, 10] (by decide +kernel) (by decide) (memL2 ⟨_, (bA 13 783), rfl, (by decide +kernel), ?_⟩ ⟨_, (bA 13 1799), rfl, (by decide +kernel), ?_⟩) | refine AT.step (L := (bA 13 783)) [4, 10] (by decide +kernel) (by decide) (memL2 ⟨_, (bA 13 799), rfl, (by decide +kernel), ?_⟩ ⟨_, (bA 13 1807), rfl, (by decide +kernel), ?_⟩) | refine AT.step (L := (bA 13 799)) [5, 10] (by decide +kernel) (by decide) (memL2 ⟨_, (bA 13 831), rfl, (by decide +kernel), ?_⟩ ⟨_, (bA 13 1823), rfl, (by decide +kernel), ?_⟩) | refine AT.step (L := (bA 13 831)) [6, 10] (by decide +kernel) (by decide) (memL2 ⟨_, (bA 13 895), rfl, (by decide +kernel), ?_⟩ ⟨_, (bA 13 1855), rfl, (by decide +kernel), ?_⟩) | refine AT.step (L := (bA 13 895)) [7, 10] (by decide +kernel) (by decide) (memL2 ⟨_, (bA 13 1023), rfl, (by decide +kernel), ?_⟩ ⟨_, (bA 13 1919), rfl, (by decide +kernel), ?_⟩) | refine AT.step (L := (bA 13 1023)) [10, 11] (by decide +kernel) (by decide) (memL2 ⟨_, (bA 13 2047), rfl, (by decide +kernel), ?_⟩ ⟨_, (bA 13 3071), rfl, (by decide +kernel), ?_⟩) | refine AT.step (L := (bA 13 3071)) [10] (by decide +kernel) (by decide) (memL1 ⟨_, (bA 13 4095), rfl, (by decide +kernel), ?_⟩) | refine AT.step (L := (bA 13 263)) [3, 9] (by decide +kernel) (by decide) (memL2 ⟨_, (bA 13 271), rfl, (by decide +kernel), ?_⟩ ⟨_, (bA 13 775), rfl, (by decide +kernel), ?_⟩) | refine AT.step (L := (bA 13 271)) [4, 9] (by decide +kernel) (by decide) (memL2 ⟨_, (bA 13 287), rfl, (by decide +kernel), ?_⟩ ⟨_, (bA 13 783), rfl, (by decide +kernel), ?_⟩) | refine AT.step (L := (bA 13 287)) [5, 9] (by decide +kernel) (by decide) (memL2 ⟨_, (bA 13 319), rfl, (by decide +kernel), ?_⟩ ⟨_, (bA 13 799), rfl, (by decide +kernel), ?_⟩) | refine AT.step (L := (bA 13 319)) [6, 9] (by decide +kernel) (by decide) (memL2 ⟨_, (bA 13 383), rfl, (by decide +kernel), ?_⟩ ⟨_, (bA 13 831), rfl, (by decide +kernel), ?_⟩) | refine AT.step (L := (bA 13 383)) [7, 9] (by decide +kernel) (by decide) (memL2 ⟨_, (bA 13 511), rfl, (by decide +kernel), ?_⟩ ⟨_, (bA 13 895), rfl, (by decide +kernel), ?_⟩) | refine AT.step (L := (bA 13 511)) [9, 11] (by decide +kernel) (by decide) (memL2 ⟨_, (bA 13 1023), rfl, (by decide +kernel), ?_⟩ ⟨_, (bA 13 2559), rfl, (by decide +kernel), ?_⟩) | refine AT.step (L := (bA 13 2559)) [9] (by decide +kernel) (by decide) (memL1 ⟨_, (bA 13 3071), rfl, (by decide +kernel), ?_⟩))
  all_goals (apply_rules (newGoals := .nonDependentOnly) only [dep])
  all_goals constructor) : p := h
theorem K1WR2o.sd {p : Prop} (h : p := by first | exact sd1eb496) : p := h
open K1WR2o in
set_option maxHeartbeats 12800000 in
theorem constO (out : List Int) (ho : out.length <= 1000000000) (i : Ins) (hi : okIns i) (form : Int) (h13 : form ≠ 13) :
    AM Try.prog 45 [.ref 0 0 out.length 1, .agg (insC i), .int .i64 form] [(0, ⟨true, nums .u8 out⟩)] [] (fun v m => v = .tup [.ref 6 0 (constP out i form).1.length 1, .bool (constP out i form).2] /\ m = [(6, ⟨true, nums .u8 (constP out i form).1⟩)]) := by
  obtain ⟨A, hA⟩ : ∃ A, constP out i form = A := ⟨_, rfl⟩
  rw [hA]
  obtain ⟨h1, h2, h3, h4, h5, h6, h7⟩ := hi
  obtain ⟨io, ia, ib, il, ih, ill⟩ := i
  simp only at h1 h2 h3 h4 h5 h6 h7
  unfold constP at hA
  unfold insC
  simp only at hA
  have hps : True := trivial
  have hjn : True := trivial
  have f1 : True := trivial
  have f2 : True := trivial
  have f3 : True := trivial
  have hjl : True := trivial
  have hz : List.drop 16 [V.int .u8 0, .int .u8 0, .int .u8 0, .int .u8 0, .int .u8 0, .int .u8 0, .int .u8 0, .int .u8 0, .int .u8 0, .int .u8 0, .int .u8 0, .int .u8 0, .int .u8 0, .int .u8 0, .int .u8 0, .int .u8 0] = [] := rfl
  have hlo : List.take out.length out = out := List.take_length
  have hcs : form = 9 \/ form = 10 \/ form = 14 \/ (form ≠ 9 /\ form ≠ 10 /\ form ≠ 13 /\ form ≠ 14) := by omega
  rcases hcs with rfl | rfl | rfl | ⟨g1, g2, g3, g4⟩
  case' inl =>
    rw [if_pos rfl] at hA
    have hb := i32_b il
    have f1 : IntKind.i64.wrap (i32 il) = i32 il := wrap64_id _ (by omega) (by omega)
    have f2 : IntKind.i32.wrap il = i32 il := rfl
    have hps := ps_1 (i32 il) (by omega)
    have hpl := putS_len 9 (i32 il) (by simp only [Nat.reduceMul, Int.reducePow, Int.reduceMul]; omega)
    have f3 : (out ++ putS (i32 il)).length = out.length + (putS (i32 il)).length := List.length_append
  case' inr.inl =>
    rw [if_neg (by decide), if_pos rfl] at hA
    have hb := i64_b il
    have f2 : IntKind.i64.wrap il = i64 il := rfl
    have hps := ps_1 (i64 il) (by omega)
    have hpl := putS_len 9 (i64 il) (by simp only [Nat.reduceMul, Int.reducePow, Int.reduceMul]; omega)
    have f3 : (out ++ putS (i64 il)).length = out.length + (putS (i64 il)).length := List.length_append
  case' inr.inr.inl =>
    rw [if_neg (by decide), if_neg (by decide), if_neg (by decide), if_pos rfl] at hA
    have f3 : (out ++ [(0 : Int)]).length = out.length + 1 := by simp
  case' inr.inr.inr =>
    rw [if_neg g1, if_neg g2, if_neg g3, if_neg g4] at hA
    have hjl : (join il ih).length = 16 := by unfold join; rw [List.length_append, toB_len, toB_len]
    have hjn := join_ok il ih h4.1 h5.1
    generalize join il ih = w at hA hjl hjn
    have f3 : (out ++ w).length = out.length + 16 := by rw [List.length_append, hjl]
    have f1 : List.take 16 w = w := List.take_of_length_le (by omega)
  all_goals
    subst hA
    refine AM.enter Try.func45 rfl (Nat.le_of_ble_eq_true rfl) (fun pn => ?_)
    simp only [Try.f45]
    have nx : type_of% @f1 /\ type_of% @f2 /\ type_of% @hlo /\ type_of% @hjl /\ type_of% @hz /\ True := ⟨@f1, ⟨@f2, ⟨@hlo, ⟨@hjl, ⟨@hz, trivial⟩⟩⟩⟩⟩
    refine' st126b23
    try
      (first | refine AW.drawT (L0 := (bA 13 0)) (by decide +kernel) hmix ?_ | refine AW.drawT (L0 := (bA 16 0)) (by decide +kernel) hmix ?_)
    have nx : type_of% @f1 /\ type_of% @f2 /\ type_of% @hlo /\ type_of% @hjl /\ type_of% @hz /\ True := ⟨@f1, ⟨@f2, ⟨@hlo, ⟨@hjl, ⟨@hz, trivial⟩⟩⟩⟩⟩
    refine' st20585a
    all_goals try (repeat (first | refine QEq.mp (by assumption) ?_ | simp only [thenQ, Go.Abs.blockQ, ↓reduceIte, Nat.reduceEqDiff]))
    all_goals
      have nx : type_of% @f1 /\ type_of% @f2 /\ type_of% @hlo /\ type_of% @hjl /\ type_of% @hz /\ True := ⟨@f1, ⟨@f2, ⟨@hlo, ⟨@hjl, ⟨@hz, trivial⟩⟩⟩⟩⟩
      refine' st20585a
    all_goals first
      | exact ⟨by rw [f3], rfl⟩
      | exact ⟨by rw [f3], trivial⟩
      | trace_state
end Go.Proofs.Yteppkbaeacndiaa
