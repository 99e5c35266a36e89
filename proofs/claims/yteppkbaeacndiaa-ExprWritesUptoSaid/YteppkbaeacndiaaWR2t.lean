/- constant: what it appends to is lent to it. -/
import Derived.Test.YteppkbaeacndiaaDP
import Derived.Test.YteppkbaeacndiaaDB
import Derived.Test.YteppkbaeacndiaaGCB
import Derived.Test.YteppkbaeacndiaaGWP
import Derived.Test.YteppkbaeacndiaaGEFld2
set_option linter.unusedSimpArgs false
set_option linter.unusedVariables false
namespace Go.Proofs.Yteppkbaeacndiaa
set_option maxRecDepth 20000
open Go Go.Abs Nat
attribute [local irreducible] AW AWL AC FW CW CWr IntKind.wrap
theorem MWR2t.NM : type_of% @NSX /\ type_of% @St.keepS.eq_1 /\ type_of% @TY /\ type_of% @SLS /\ type_of% @nums_length /\ type_of% @take16 :=
  ⟨NSX, St.keepS.eq_1, @TY, @SLS, @nums_length, @take16⟩
open MWR2t
theorem su905374WR2t {p : Prop} (h : p := by
  repeat' (first
    | ((with_reducible show AW _ _ _ _); first | ((first | refine AW.seqA ?_ | refine AW.blockA ?_); intro Qn hQn hPn))
    | ((with_reducible first | show AWL _ _ _ _ _ | show AW _ _ _ _); (first | refine AWL.nil ?_ | refine AW.skip ?_ | refine AW.ret ?_ | refine AW.exit ?_); (repeat (first | refine QEq.mp (by assumption) ?_ | simp only [thenQ, Go.Abs.blockQ, ↓reduceIte, Nat.reduceEqDiff])))
    | ((first
      | ((with_reducible show AWL _ _ _ _ _); first | refine AWL.opN (sl := SL) rfl rfl rfl trivial ?_ | (refine AWL.boxF (t := 82) rfl rfl rfl rfl rfl ?_) | (refine AWL.allocF (t := 82) rfl rfl rfl rfl rfl rfl ?_) | (refine AWL.op (sl := SL) rfl rfl ?_ ?_) | (refine AWL.ptrNil rfl rfl rfl rfl rfl rfl (by kernel_rfl) ?_) | (refine AWL.sliceNil rfl rfl rfl rfl rfl (by kernel_rfl) ?_ ?_; (focus (first | exact trivial | exact numsZ)); (intro r hr; cases r <;> first | (have hr := hr rfl) | (clear hr))) | (refine AWL.guard2 rfl rfl rfl rfl rfl rfl ?_ ?_ <;> (intro hc; (try simp only [Bool.not_true, Bool.not_false] at hc); first | (cases hc; done) | ((try simp only [hc]); (try simp only [HCX] at hc); (try (exfalso; omega)); (try (guard_hyp hc : True; clear hc))))) | refine AWL.guardU rfl rfl rfl rfl rfl rfl ?_ | refine' cl)
      | ((with_reducible show AW _ _ _ _); first | ((show AW _ (.region _ _ false) _ _); refine kp ?_; refine AW.region ?_))
      | ((with_reducible show AT _ _ _ _ _ _); refine' att2)) <;> (try ((first | with_reducible (first | show AWL _ _ _ _ _ | show AW _ _ _ _ | show DQ _ _ _ _ _ _) | (rintro _ _ ⟨rfl, rfl⟩; (try refine And.intro rfl ?_))); (try (conv => arg -1; simp (disch := omega) only [NM, Nat.reduceBEq, reduceAdd, reduceMul, Int.reduceToNat, reduceSub, List.set_cons_zero, List.set_cons_succ, nx])))))
    | ((with_reducible show AW _ _ _ _); first | (refine AW.cond rfl (fun hc => ?_) (fun hc => ?_) <;> first | (cases hc; done) | ((try simp only [HCX] at hc); (try (exfalso; omega)); (try (guard_hyp hc : True; clear hc)))))
    | ((with_reducible show True); exact trivial) | ((with_reducible show ATQ _ _ _ _); show AT _ _ _ _ _ _)
    | ((refine EndM.mk [6] rfl rfl rfl rfl ?_ ?_ ?_ ?_; (focus (first | exact Or.inl rfl | exact Or.inr rfl)); (focus (repeat (first | exact List.forall_mem_nil _ | refine List.forall_mem_cons.2 ⟨rfl, ?_⟩)))) <;> (try simp (disch := omega) only [NM, Nat.reduceBEq, reduceAdd, reduceMul, Int.reduceToNat, reduceSub, List.set_cons_zero, List.set_cons_succ, nx]))
    | exact sd
    | fail)
  all_goals (try clear nx)
  all_goals (apply_rules (newGoals := .nonDependentOnly) only [dep])
  all_goals constructor) : p := h
theorem K1WR2t.kp {P : Program} {c : Code} {Q : Exit -> St -> Prop} {st : St} (h : AW P c Q (st.keepS [0, 1, 2, 4, 6, 7, 8, 9])) : AW P c Q st := AW.keepS _ h
theorem K1WR2t.cl {p : Prop} (h : p := by
  first
    | refine AWL.frzG rfl rfl rfl ?_
    | refine AWL.cC (f := 43) cb43 rfl rfl rfl rfl rfl rfl (hps) ?_
    | refine AWL.cC (f := 60) cb60 rfl rfl rfl rfl rfl rfl (hjn) ?_
  all_goals (apply_rules (newGoals := .nonDependentOnly) only [dep])
  all_goals constructor) : p := h
theorem K1WR2t.att {p : Prop} (h : p := by
  first
    | (first | refine AT.step (L := (bA 16 1023)) [10, 14] (by decide +kernel) (by decide) (memL2 ⟨_, (bA 16 2047), rfl, (by decide +kernel), ?_⟩ ⟨_, (bA 16 17407), rfl, (by decide +kernel), ?_⟩) | refine AT.step (L := (bA 16 17407)) [10] (by decide +kernel) (by decide) (memL1 ⟨_, (bA 16 18431), rfl, (by decide +kernel), ?_⟩) | refine AT.step (L := (bA 16 18431)) [11] (by decide +kernel) (by decide) (memL1 ⟨_, (bA 16 20479), rfl, (by decide +kernel), ?_⟩) | refine AT.step (L := (bA 16 20479)) [12] (by decide +kernel) (by decide) (memL1 ⟨_, (bA 16 24575), rfl, (by decide +kernel), ?_⟩) | refine AT.step (L := (bA 16 24575)) [13] (by decide +kernel) (by decide) (memL1 ⟨_, (bA 16 32767), rfl, (by decide +kernel), ?_⟩) | refine AT.step (L := (bA 16 32767)) [15] (by decide +kernel) (by decide) (memL1 ⟨_, (bA 16 65535), rfl, (by decide +kernel), ?_⟩) | refine AT.done (L := (bA 16 65535)) (by decide +kernel) ?_ | refine AT.step (L := (bA 16 2047)) [11, 14] (by decide +kernel) (by decide) (memL2 ⟨_, (bA 16 4095), rfl, (by decide +kernel), ?_⟩ ⟨_, (bA 16 18431), rfl, (by decide +kernel), ?_⟩) | refine AT.step (L := (bA 16 4095)) [12, 14] (by decide +kernel) (by decide) (memL2 ⟨_, (bA 16 8191), rfl, (by decide +kernel), ?_⟩ ⟨_, (bA 16 20479), rfl, (by decide +kernel), ?_⟩) | refine AT.step (L := (bA 16 8191)) [13, 14] (by decide +kernel) (by decide) (memL2 ⟨_, (bA 16 16383), rfl, (by decide +kernel), ?_⟩ ⟨_, (bA 16 24575), rfl, (by decide +kernel), ?_⟩) | refine AT.step (L := (bA 16 16383)) [14] (by decide +kernel) (by decide) (memL1 ⟨_, (bA 16 32767), rfl, (by decide +kernel), ?_⟩))
  all_goals (apply_rules (newGoals := .nonDependentOnly) only [dep])
  all_goals constructor) : p := h
theorem K1WR2t.att2 {p : Prop} (h : p := by
  first
    | (first | (refine AT.takeM (L := (bA 13 0)) (L' := (bA 13 1)) 0 rfl rfl rfl rfl rfl panA (by decide +kernel) (by decide +kernel) ?_; (try (conv => arg -1; simp (disch := omega) only [NM, Nat.reduceBEq, reduceAdd, reduceMul, Int.reduceToNat, reduceSub, List.set_cons_zero, List.set_cons_succ, nx]))) | (refine AT.takeF (L := (bA 13 1)) (L' := (bA 13 3)) 1 rfl rfl rfl rfl rfl rfl rfl rfl panA (by decide +kernel) (by decide +kernel) ?_; (try (conv => arg -1; simp (disch := omega) only [NM, Nat.reduceBEq, reduceAdd, reduceMul, Int.reduceToNat, reduceSub, List.set_cons_zero, List.set_cons_succ, nx]))) | (refine AT.takeF (L := (bA 13 3)) (L' := (bA 13 259)) 8 rfl rfl rfl rfl rfl rfl rfl rfl panA (by decide +kernel) (by decide +kernel) ?_; (try (conv => arg -1; simp (disch := omega) only [NM, Nat.reduceBEq, reduceAdd, reduceMul, Int.reduceToNat, reduceSub, List.set_cons_zero, List.set_cons_succ, nx]))) | refine AT.step (L := (bA 13 259)) [2, 9] (by decide +kernel) (by decide) (memL2 ⟨_, (bA 13 263), rfl, (by decide +kernel), ?_⟩ ⟨_, (bA 13 771), rfl, (by decide +kernel), ?_⟩) | refine AT.step (L := (bA 13 771)) [2, 10] (by decide +kernel) (by decide) (memL2 ⟨_, (bA 13 775), rfl, (by decide +kernel), ?_⟩ ⟨_, (bA 13 1795), rfl, (by decide +kernel), ?_⟩) | refine AT.step (L := (bA 13 1795)) [2] (by decide +kernel) (by decide) (memL1 ⟨_, (bA 13 1799), rfl, (by decide +kernel), ?_⟩) | refine AT.step (L := (bA 13 1799)) [3] (by decide +kernel) (by decide) (memL1 ⟨_, (bA 13 1807), rfl, (by decide +kernel), ?_⟩) | refine AT.step (L := (bA 13 1807)) [4] (by decide +kernel) (by decide) (memL1 ⟨_, (bA 13 1823), rfl, (by decide +kernel), ?_⟩) | refine AT.step (L := (bA 13 1823)) [5] (by decide +kernel) (by decide) (memL1 ⟨_, (bA 13 1855), rfl, (by decide +kernel), ?_⟩) | refine AT.step (L := (bA 13 1855)) [6] (by decide +kernel) (by decide) (memL1 ⟨_, (bA 13 1919), rfl, (by decide +kernel), ?_⟩) | refine AT.step (L := (bA 13 1919)) [7] (by decide +kernel) (by decide) (memL1 ⟨_, (bA 13 2047), rfl, (by decide +kernel), ?_⟩) | refine AT.step (L := (bA 13 2047)) [11] (by decide +kernel) (by decide) (memL1 ⟨_, (bA 13 4095), rfl, (by decide +kernel), ?_⟩) | refine AT.step (L := (bA 13 4095)) [12] (by decide +kernel) (by decide) (memL1 ⟨_, (bA 13 8191), rfl, (by decide +kernel), ?_⟩) | refine AT.done (L := (bA 13 8191)) (by decide +kernel) ?_ | refine AT.step (L := (bA 13 775)) [3, 10] (by decide +kernel) (by decide) (memL2 ⟨_, (bA 13 783), rfl, (by decide +kernel), ?_⟩ ⟨_, (bA 13 1799), rfl, (by decide +kernel), ?_⟩) | refine AT.step (L := (bA 13 783)) [4, 10] (by decide +kernel) (by decide) (memL2 ⟨_, (bA 13 799), rfl, (by decide +kernel), ?_⟩ ⟨_, (bA 13 1807), rfl, (by decide +kernel), ?_⟩) | refine AT.step (L := (bA 13 799)) [5, 10] (by decide +kernel) (by decide) (memL2 ⟨_, (bA 13 831), rfl, (by decide +kernel), ?_⟩ ⟨_, (bA 13 1823), rfl, (by decide +kernel), ?_⟩) | refine AT.step (L := (bA 13 831)) [6, 10] (by decide +kernel) (by decide) (memL2 ⟨_, (bA 13 895), rfl, (by decide +kernel), ?_⟩ ⟨_, (bA 13 1855), rfl, (by decide +kernel), ?_⟩) | refine AT.step (L := (bA 13 895)) [7, 10] (by decide +kernel) (by decide) (memL2 ⟨_, (bA 13 1023), rfl, (by decide +kernel), ?_⟩ ⟨_, (bA 13 1919), rfl, (by decide +kernel), ?_⟩) | refine AT.step (L := (bA 13 1023)) [10, 11] (by decide +kernel) (by decide) (memL2 ⟨_, (bA 13 2047), rfl, (by decide +kernel), ?_⟩ ⟨_, (bA 13 3071), rfl, (by decide +kernel), ?_⟩) | refine AT.step (L := (bA 13 3071)) [10] (by decide +kernel) (by decide) (memL1 ⟨_, (bA 13 4095), rfl, (by decide +kernel), ?_⟩) | refine AT.step (L := (bA 13 263)) [3, 9] (by decide +kernel) (by decide) (memL2 ⟨_, (bA 13 271), rfl, (by decide +kernel), ?_⟩ ⟨_, (bA 13 775), rfl, (by decide +kernel), ?_⟩) | refine AT.step (L := (bA 13 271)) [4, 9] (by decide +kernel) (by decide) (memL2 ⟨_, (bA 13 287), rfl, (by decide +kernel), ?_⟩ ⟨_, (bA 13 783), rfl, (by decide +kernel), ?_⟩) | refine AT.step (L := (bA 13 287)) [5, 9] (by decide +kernel) (by decide) (memL2 ⟨_, (bA 13 319), rfl, (by decide +kernel), ?_⟩ ⟨_, (bA 13 799), rfl, (by decide +kernel), ?_⟩) | refine AT.step (L := (bA 13 319)) [6, 9] (by decide +kernel) (by decide) (memL2 ⟨_, (bA 13 383), rfl, (by decide +kernel), ?_⟩ ⟨_, (bA 13 831), rfl, (by decide +kernel), ?_⟩) | refine AT.step (L := (bA 13 383)) [7, 9] (by decide +kernel) (by decide) (memL2 ⟨_, (bA 13 511), rfl, (by decide +kernel), ?_⟩ ⟨_, (bA 13 895), rfl, (by decide +kernel), ?_⟩) | refine AT.step (L := (bA 13 511)) [9, 11] (by decide +kernel) (by decide) (memL2 ⟨_, (bA 13 1023), rfl, (by decide +kernel), ?_⟩ ⟨_, (bA 13 2559), rfl, (by decide +kernel), ?_⟩) | refine AT.step (L := (bA 13 2559)) [9] (by decide +kernel) (by decide) (memL1 ⟨_, (bA 13 3071), rfl, (by decide +kernel), ?_⟩) | (refine AT.takeM (L := (bA 16 0)) (L' := (bA 16 1)) 0 rfl rfl rfl rfl rfl panA (by decide +kernel) (by decide +kernel) ?_; (try (conv => arg -1; simp (disch := omega) only [NM, Nat.reduceBEq, reduceAdd, reduceMul, Int.reduceToNat, reduceSub, List.set_cons_zero, List.set_cons_succ, nx]))) | (refine AT.takeF (L := (bA 16 1)) (L' := (bA 16 3)) 1 rfl rfl rfl rfl rfl rfl rfl rfl panA (by decide +kernel) (by decide +kernel) ?_; (try (conv => arg -1; simp (disch := omega) only [NM, Nat.reduceBEq, reduceAdd, reduceMul, Int.reduceToNat, reduceSub, List.set_cons_zero, List.set_cons_succ, nx]))) | (refine AT.takeF (L := (bA 16 3)) (L' := (bA 16 67)) 6 rfl rfl rfl rfl rfl rfl rfl rfl panA (by decide +kernel) (by decide +kernel) ?_; (try (conv => arg -1; simp (disch := omega) only [NM, Nat.reduceBEq, reduceAdd, reduceMul, Int.reduceToNat, reduceSub, List.set_cons_zero, List.set_cons_succ, nx]))) | refine AT.step (L := (bA 16 67)) [2, 7] (by decide +kernel) (by decide) (memL2 ⟨_, (bA 16 71), rfl, (by decide +kernel), ?_⟩ ⟨_, (bA 16 195), rfl, (by decide +kernel), ?_⟩) | refine AT.step (L := (bA 16 195)) [2, 8] (by decide +kernel) (by decide) (memL2 ⟨_, (bA 16 199), rfl, (by decide +kernel), ?_⟩ ⟨_, (bA 16 451), rfl, (by decide +kernel), ?_⟩) | refine AT.step (L := (bA 16 451)) [2] (by decide +kernel) (by decide) (memL1 ⟨_, (bA 16 455), rfl, (by decide +kernel), ?_⟩) | refine AT.step (L := (bA 16 455)) [3] (by decide +kernel) (by decide) (memL1 ⟨_, (bA 16 463), rfl, (by decide +kernel), ?_⟩) | refine AT.step (L := (bA 16 463)) [4] (by decide +kernel) (by decide) (memL1 ⟨_, (bA 16 479), rfl, (by decide +kernel), ?_⟩) | refine AT.step (L := (bA 16 479)) [5] (by decide +kernel) (by decide) (memL1 ⟨_, (bA 16 511), rfl, (by decide +kernel), ?_⟩) | (refine AT.takeM (L := (bA 16 511)) (L' := (bA 16 1023)) 9 rfl rfl rfl rfl rfl panA (by decide +kernel) (by decide +kernel) ?_; (try (conv => arg -1; simp (disch := omega) only [NM, Nat.reduceBEq, reduceAdd, reduceMul, Int.reduceToNat, reduceSub, List.set_cons_zero, List.set_cons_succ, nx]))) | refine AT.step (L := (bA 16 199)) [3, 8] (by decide +kernel) (by decide) (memL2 ⟨_, (bA 16 207), rfl, (by decide +kernel), ?_⟩ ⟨_, (bA 16 455), rfl, (by decide +kernel), ?_⟩) | refine AT.step (L := (bA 16 207)) [4, 8] (by decide +kernel) (by decide) (memL2 ⟨_, (bA 16 223), rfl, (by decide +kernel), ?_⟩ ⟨_, (bA 16 463), rfl, (by decide +kernel), ?_⟩) | refine AT.step (L := (bA 16 223)) [5, 8] (by decide +kernel) (by decide) (memL2 ⟨_, (bA 16 255), rfl, (by decide +kernel), ?_⟩ ⟨_, (bA 16 479), rfl, (by decide +kernel), ?_⟩) | refine AT.step (L := (bA 16 255)) [8] (by decide +kernel) (by decide) (memL1 ⟨_, (bA 16 511), rfl, (by decide +kernel), ?_⟩) | refine AT.step (L := (bA 16 71)) [3, 7] (by decide +kernel) (by decide) (memL2 ⟨_, (bA 16 79), rfl, (by decide +kernel), ?_⟩ ⟨_, (bA 16 199), rfl, (by decide +kernel), ?_⟩) | refine AT.step (L := (bA 16 79)) [4, 7] (by decide +kernel) (by decide) (memL2 ⟨_, (bA 16 95), rfl, (by decide +kernel), ?_⟩ ⟨_, (bA 16 207), rfl, (by decide +kernel), ?_⟩) | refine AT.step (L := (bA 16 95)) [5, 7] (by decide +kernel) (by decide) (memL2 ⟨_, (bA 16 127), rfl, (by decide +kernel), ?_⟩ ⟨_, (bA 16 223), rfl, (by decide +kernel), ?_⟩) | refine AT.step (L := (bA 16 127)) [7] (by decide +kernel) (by decide) (memL1 ⟨_, (bA 16 255), rfl, (by decide +kernel), ?_⟩))
  all_goals (apply_rules (newGoals := .nonDependentOnly) only [dep])
  all_goals constructor) : p := h
theorem K1WR2t.sd {p : Prop} (h : p := by first | exact sd1eb496) : p := h
open K1WR2t in
set_option maxHeartbeats 12800000 in
theorem const13 (out : List Int) (ho : out.length <= 1000000000) (i : Ins) (hi : okIns i) :
    AM Try.prog 45 [.ref 0 0 out.length 1, .agg (insC i), .int .i64 13] [(0, ⟨true, nums .u8 out⟩)] [] (fun v m => v = .tup [.ref 6 0 (constP out i 13).1.length 1, .bool (constP out i 13).2] /\ m = [(6, ⟨true, nums .u8 (constP out i 13).1⟩)]) := by
  obtain ⟨A, hA⟩ : ∃ A, constP out i 13 = A := ⟨_, rfl⟩
  rw [hA]
  obtain ⟨h1, h2, h3, h4, h5, h6, h7⟩ := hi
  obtain ⟨io, ia, ib, il, ih, ill⟩ := i
  simp only at h1 h2 h3 h4 h5 h6 h7
  unfold constP at hA
  unfold insC
  simp only at hA
  have hps : True := trivial
  have hjn : True := trivial
  have hlo : List.take out.length out = out := List.take_length
  have f1 : IntKind.u8.wrap ia = ia % 256 := wrap_unsigned (k := .u8) rfl _
  have f3 : (out ++ [ia % 256]).length = out.length + 1 := by simp
  rw [if_neg (by decide), if_neg (by decide)] at hA
  subst hA
  refine AM.enter Try.func45 rfl (Nat.le_of_ble_eq_true rfl) (fun pn => ?_)
  simp only [Try.f45]
  have hsp : (decide (ia >= 0) = true /\ decide (0 <= ia) = true) \/ (decide (ia >= 0) = false /\ decide (0 <= ia) = false) := by
    by_cases c : 0 <= ia
    · exact .inl ⟨decide_eq_true c, decide_eq_true c⟩
    · exact .inr ⟨decide_eq_false c, decide_eq_false c⟩
  have e4 : decide (0 <= ia /\ ia < 256) = (decide (0 <= ia) && decide (ia < 256)) := Bool.decide_and ..
  have nx : type_of% @f1 /\ type_of% @hlo /\ True := ⟨@f1, ⟨@hlo, trivial⟩⟩
  refine' st298080
  refine AW.drawT (L0 := (bA 16 0)) (by decide +kernel) hmix ?_
  refine AT.via (bA 16 1023) 6 { n := 62, slots := [(4, .ptr 4 0), (39, .ref 0 0 (out.length + 1) 1), (43, .bool (decide (ia >= 0)))], mem := [(4, ⟨false, [.int .i64 io, .int .i64 ia, .int .i64 ib, .int .u64 il, .int .u64 ih, .view ill.length 1 (nums .i64 ill)]⟩), (0, ⟨true, nums .u8 (out ++ [ia % 256])⟩)], lent := [(0, none)] } ?_ (fun hmid => ?_)
  · skip --POST
    rcases hsp with ⟨e1, e2⟩ | ⟨e1, e2⟩
    all_goals
      rw [e1]
      have nx : type_of% @e1 /\ type_of% @e2 /\ type_of% @f3 /\ True := ⟨@e1, ⟨@e2, ⟨@f3, trivial⟩⟩⟩
      refine' st20585a
      all_goals try (repeat (first | refine QEq.mp (by assumption) ?_ | simp only [thenQ, Go.Abs.blockQ, ↓reduceIte, Nat.reduceEqDiff]))
      all_goals
        have nx : type_of% @e1 /\ type_of% @e2 /\ type_of% @f3 /\ True := ⟨@e1, ⟨@e2, ⟨@f3, trivial⟩⟩⟩
        refine' st20585a
      all_goals first
        | exact ⟨by rw [f3, e4, e2, Bool.true_and], rfl⟩
        | exact ⟨by rw [f3, e4, e2, Bool.false_and], rfl⟩
        | exact ⟨by rw [e4, e2, Bool.true_and], trivial⟩
        | exact ⟨by rw [e4, e2, Bool.false_and], trivial⟩
        | exact ⟨by rw [f3], rfl⟩
        | trace_state
  have nx : type_of% @f1 /\ type_of% @hlo /\ True := ⟨@f1, ⟨@hlo, trivial⟩⟩
  refine' su905374WR2t
  all_goals
    refine AT.keep [4, 39, 43] [4, 0] ?_
    first
      | exact hmid
      | trace_state
end Go.Proofs.Yteppkbaeacndiaa
