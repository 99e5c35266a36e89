/- put, but for tables. -/
import Derived.Test.YteppkbaeacndiaaDP
import Derived.Test.YteppkbaeacndiaaDB
import Derived.Test.YteppkbaeacndiaaGCB
import Derived.Test.YteppkbaeacndiaaWR4
import Derived.Test.YteppkbaeacndiaaWR3b
import Derived.Test.YteppkbaeacndiaaWR3c
import Derived.Test.YteppkbaeacndiaaGXSt
import Derived.Test.YteppkbaeacndiaaGWP
import Derived.Test.YteppkbaeacndiaaGJoin
set_option linter.unusedSimpArgs false
set_option linter.unusedVariables false
namespace Go.Proofs.Yteppkbaeacndiaa
set_option maxRecDepth 20000
open Go Go.Abs Nat
attribute [local irreducible] AW AWL AC FW CW CWr IntKind.wrap
theorem MWR3.NM : type_of% @NSX /\ type_of% @St.keepS.eq_1 /\ type_of% @TY /\ type_of% @SLS /\ type_of% @nums_length /\ type_of% @infoL.eq_1 /\ type_of% @T8w.eq_1 /\ type_of% @S1w.eq_1 /\ type_of% @S2w.eq_1 :=
  ⟨NSX, St.keepS.eq_1, @TY, @SLS, @nums_length, @infoL.eq_1, @T8w.eq_1, @S1w.eq_1, @S2w.eq_1⟩
open MWR3
theorem su574aa2WR3 {p : Prop} (h : p := by
  repeat' (first
    | ((with_reducible show AW _ _ _ _); first | ((first | refine AW.seqA ?_ | refine AW.blockA ?_); intro Qn hQn hPn))
    | ((with_reducible show AWL _ _ _ _ _); refine AWL.lentD rfl rfl ?_; (try (conv => arg -1; simp (disch := omega) only [NM, Nat.reduceBEq, reduceAdd, reduceMul, Int.reduceToNat, reduceSub, List.set_cons_zero, List.set_cons_succ, nx])))
    | ((with_reducible first | show AWL _ _ _ _ _ | show AW _ _ _ _); (first | refine AWL.nil ?_ | refine AW.skip ?_ | refine AW.ret ?_ | refine AW.exit ?_); (repeat (first | refine QEq.mp (by assumption) ?_ | simp only [thenQ, Go.Abs.blockQ, ↓reduceIte, Nat.reduceEqDiff])))
    | ((first
      | ((with_reducible show AWL _ _ _ _ _); first | refine AWL.opN (sl := SL) rfl rfl rfl trivial ?_ | (refine AWL.op (sl := SL) rfl rfl ?_ ?_) | (refine AWL.ptrNil rfl rfl rfl rfl rfl rfl (by kernel_rfl) ?_) | (refine AWL.sliceNil rfl rfl rfl rfl rfl (by kernel_rfl) ?_ ?_; (focus (first | exact trivial | exact numsZ)); (intro r hr; cases r <;> first | (have hr := hr rfl) | (clear hr))) | (refine AWL.guard2 rfl rfl rfl rfl rfl rfl ?_ ?_ <;> (intro hc; (try simp only [Bool.not_true, Bool.not_false] at hc); first | (cases hc; done) | ((try simp only [hc]); (try simp only [HCX] at hc); (try (exfalso; omega)); (try (guard_hyp hc : True; clear hc))))) | refine AWL.guardU rfl rfl rfl rfl rfl rfl ?_ | refine' cl)
      | ((with_reducible show AW _ _ _ _); first | ((show AW _ (.region _ _ false) _ _); refine kp ?_; refine AW.region ?_))
      | ((with_reducible show AT _ _ _ _ _ _); refine' att2)) <;> (try ((first | with_reducible (first | show AWL _ _ _ _ _ | show AW _ _ _ _ | show DQ _ _ _ _ _ _) | (rintro _ _ ⟨rfl, rfl⟩; (try refine And.intro (by kernel_rfl) ?_))); (try (conv => arg -1; simp (disch := omega) only [NM, Nat.reduceBEq, reduceAdd, reduceMul, Int.reduceToNat, reduceSub, List.set_cons_zero, List.set_cons_succ, nx])))))
    | ((with_reducible show AW _ _ _ _); first | (refine AW.cond rfl (fun hc => ?_) (fun hc => ?_) <;> first | (cases hc; done) | ((try simp only [HCX] at hc); (try (exfalso; omega)); (try (guard_hyp hc : True; clear hc)))))
    | ((with_reducible show True); exact trivial) | ((with_reducible show ATQ _ _ _ _); show AT _ _ _ _ _ _)
    | ((refine EndQ.mk rfl rfl rfl ?_ ?_ ?_; (focus (first | exact Or.inl rfl | exact Or.inr rfl))) <;> (try simp (disch := omega) only [NM, Nat.reduceBEq, reduceAdd, reduceMul, Int.reduceToNat, reduceSub, List.set_cons_zero, List.set_cons_succ, nx]))
    | exact sd
    | fail)
  all_goals (try clear nx)
  all_goals (apply_rules (newGoals := .nonDependentOnly) only [dep])
  all_goals constructor) : p := h
theorem K1WR3.kp {P : Program} {c : Code} {Q : Exit -> St -> Prop} {st : St} (h : AW P c Q (st.keepS [0, 1, 2, 3, 4, 5, 6, 7, 9, 46, 101, 102, 103])) : AW P c Q st := AW.keepS _ h
theorem K1WR3.cl {p : Prop} (h : p := by
  first
    | refine AWL.cM (f := 45) [(0, 6)] cb45 rfl rfl rfl rfl rfl rfl rfl (hco) ?_
    | refine AWL.frzG rfl rfl rfl ?_
    | refine AWL.cC (f := 28) cb28 rfl rfl rfl rfl rfl rfl (hof) ?_
    | refine AWL.cC (f := 41) cb41 rfl rfl rfl rfl rfl rfl (hre) ?_
    | refine AWL.cC (f := 42) cb42 rfl rfl rfl rfl rfl rfl (hpu) ?_
    | refine AWL.cC (f := 42) cb42 rfl rfl rfl rfl rfl rfl (hpb) ?_
    | refine AWL.cC (f := 43) cb43 rfl rfl rfl rfl rfl rfl (hps) ?_
    | refine AWL.cC (f := 44) cb44 rfl rfl rfl rfl rfl rfl (hna) ?_
    | refine AWL.cC (f := 44) cb44 rfl rfl rfl rfl rfl rfl (hnb) ?_
  all_goals (apply_rules (newGoals := .nonDependentOnly) only [dep])
  all_goals constructor) : p := h
theorem K1WR3.att {p : Prop} (h : p := by
  first
    | (first | refine AT.step (L := (bA 11 511)) [9] (by decide +kernel) (by decide) (memL1 ⟨_, (bA 11 1023), rfl, (by decide +kernel), ?_⟩) | refine AT.step (L := (bA 11 1023)) [10] (by decide +kernel) (by decide) (memL1 ⟨_, (bA 11 2047), rfl, (by decide +kernel), ?_⟩) | (refine AT.done (L := (bA 11 2047)) (by decide +kernel) ?_; (repeat (first | refine QEq.mp (by assumption) ?_ | simp only [thenQ, Go.Abs.blockQ, ↓reduceIte, Nat.reduceEqDiff]))) | refine AT.step (L := (bA 8 63)) [6] (by decide +kernel) (by decide) (memL1 ⟨_, (bA 8 127), rfl, (by decide +kernel), ?_⟩) | refine AT.step (L := (bA 8 127)) [7] (by decide +kernel) (by decide) (memL1 ⟨_, (bA 8 255), rfl, (by decide +kernel), ?_⟩) | (refine AT.done (L := (bA 8 255)) (by decide +kernel) ?_; (repeat (first | refine QEq.mp (by assumption) ?_ | simp only [thenQ, Go.Abs.blockQ, ↓reduceIte, Nat.reduceEqDiff]))))
  all_goals (apply_rules (newGoals := .nonDependentOnly) only [dep])
  all_goals constructor) : p := h
theorem K1WR3.att2 {p : Prop} (h : p := by
  first
    | (first | (refine AT.takeM (L := (bA 11 0)) (L' := (bA 11 1)) 0 rfl rfl rfl rfl rfl panA (by decide +kernel) (by decide +kernel) ?_; (try (conv => arg -1; simp (disch := omega) only [NM, Nat.reduceBEq, reduceAdd, reduceMul, Int.reduceToNat, reduceSub, List.set_cons_zero, List.set_cons_succ, nx]))) | (refine AT.takeF (L := (bA 11 1)) (L' := (bA 11 3)) 1 rfl rfl rfl rfl rfl rfl rfl rfl panA (by decide +kernel) (by decide +kernel) ?_; (try (conv => arg -1; simp (disch := omega) only [NM, Nat.reduceBEq, reduceAdd, reduceMul, Int.reduceToNat, reduceSub, List.set_cons_zero, List.set_cons_succ, nx]))) | (refine AT.takeF (L := (bA 11 3)) (L' := (bA 11 67)) 6 rfl rfl rfl rfl rfl rfl rfl rfl panA (by decide +kernel) (by decide +kernel) ?_; (try (conv => arg -1; simp (disch := omega) only [NM, Nat.reduceBEq, reduceAdd, reduceMul, Int.reduceToNat, reduceSub, List.set_cons_zero, List.set_cons_succ, nx]))) | refine AT.step (L := (bA 11 67)) [2, 7] (by decide +kernel) (by decide) (memL2 ⟨_, (bA 11 71), rfl, (by decide +kernel), ?_⟩ ⟨_, (bA 11 195), rfl, (by decide +kernel), ?_⟩) | refine AT.step (L := (bA 11 195)) [2] (by decide +kernel) (by decide) (memL1 ⟨_, (bA 11 199), rfl, (by decide +kernel), ?_⟩) | refine AT.step (L := (bA 11 199)) [3] (by decide +kernel) (by decide) (memL1 ⟨_, (bA 11 207), rfl, (by decide +kernel), ?_⟩) | refine AT.step (L := (bA 11 207)) [4] (by decide +kernel) (by decide) (memL1 ⟨_, (bA 11 223), rfl, (by decide +kernel), ?_⟩) | refine AT.step (L := (bA 11 223)) [5] (by decide +kernel) (by decide) (memL1 ⟨_, (bA 11 255), rfl, (by decide +kernel), ?_⟩) | refine AT.step (L := (bA 11 255)) [8] (by decide +kernel) (by decide) (memL1 ⟨_, (bA 11 511), rfl, (by decide +kernel), ?_⟩) | refine AT.step (L := (bA 11 71)) [3, 7] (by decide +kernel) (by decide) (memL2 ⟨_, (bA 11 79), rfl, (by decide +kernel), ?_⟩ ⟨_, (bA 11 199), rfl, (by decide +kernel), ?_⟩) | refine AT.step (L := (bA 11 79)) [4, 7] (by decide +kernel) (by decide) (memL2 ⟨_, (bA 11 95), rfl, (by decide +kernel), ?_⟩ ⟨_, (bA 11 207), rfl, (by decide +kernel), ?_⟩) | refine AT.step (L := (bA 11 95)) [5, 7] (by decide +kernel) (by decide) (memL2 ⟨_, (bA 11 127), rfl, (by decide +kernel), ?_⟩ ⟨_, (bA 11 223), rfl, (by decide +kernel), ?_⟩) | refine AT.step (L := (bA 11 127)) [7] (by decide +kernel) (by decide) (memL1 ⟨_, (bA 11 255), rfl, (by decide +kernel), ?_⟩) | (refine AT.takeM (L := (bA 8 0)) (L' := (bA 8 1)) 0 rfl rfl rfl rfl rfl panA (by decide +kernel) (by decide +kernel) ?_; (try (conv => arg -1; simp (disch := omega) only [NM, Nat.reduceBEq, reduceAdd, reduceMul, Int.reduceToNat, reduceSub, List.set_cons_zero, List.set_cons_succ, nx]))) | (refine AT.takeM (L := (bA 8 1)) (L' := (bA 8 3)) 1 rfl rfl rfl rfl rfl panA (by decide +kernel) (by decide +kernel) ?_; (try (conv => arg -1; simp (disch := omega) only [NM, Nat.reduceBEq, reduceAdd, reduceMul, Int.reduceToNat, reduceSub, List.set_cons_zero, List.set_cons_succ, nx]))) | (refine AT.takeF (L := (bA 8 3)) (L' := (bA 8 11)) 3 rfl rfl rfl rfl rfl rfl rfl rfl panA (by decide +kernel) (by decide +kernel) ?_; (try (conv => arg -1; simp (disch := omega) only [NM, Nat.reduceBEq, reduceAdd, reduceMul, Int.reduceToNat, reduceSub, List.set_cons_zero, List.set_cons_succ, nx]))) | refine AT.step (L := (bA 8 11)) [2, 4] (by decide +kernel) (by decide) (memL2 ⟨_, (bA 8 15), rfl, (by decide +kernel), ?_⟩ ⟨_, (bA 8 27), rfl, (by decide +kernel), ?_⟩) | refine AT.step (L := (bA 8 27)) [2] (by decide +kernel) (by decide) (memL1 ⟨_, (bA 8 31), rfl, (by decide +kernel), ?_⟩) | refine AT.step (L := (bA 8 31)) [5] (by decide +kernel) (by decide) (memL1 ⟨_, (bA 8 63), rfl, (by decide +kernel), ?_⟩) | refine AT.step (L := (bA 8 15)) [4] (by decide +kernel) (by decide) (memL1 ⟨_, (bA 8 31), rfl, (by decide +kernel), ?_⟩))
  all_goals (apply_rules (newGoals := .nonDependentOnly) only [dep])
  all_goals constructor) : p := h
theorem K1WR3.sd {p : Prop} (h : p := by first | exact sd1eb496) : p := h
open K1WR3 in
set_option maxHeartbeats 12800000 in
theorem put_raw (i : Ins) (hi : okIns i) :
    AC Try.prog 22 [.agg (insC i)] (fun v m => PutR (insP i) v m) := by
  by_cases h4 : ((ofS i.op).2 = true /\ restB i (ofS i.op).1.1 = true) /\ (ofS i.op).1.1 = 4
  · exact put4 i hi h4.1 h4.2
  by_cases hg : ((ofS i.op).2 = true /\ restB i (ofS i.op).1.1 = true) /\ ((ofS i.op).1.1 = 6 \/ (ofS i.op).1.1 = 7 \/ (ofS i.op).1.1 = 8)
  · exact hg.2.elim (fun h => put67 i hi hg.1 (.inl h)) (fun h => h.elim (fun h => put67 i hi hg.1 (.inr h)) (fun h => put8 i hi hg.1 h))
  obtain ⟨A, hA⟩ : ∃ A, insP i = A := ⟨_, rfl⟩
  rw [hA]
  obtain ⟨z, hz⟩ : ∃ z, ofS i.op = z := ⟨_, rfl⟩
  have hof := of_look i.op
  have hre := rest_ok i z.1.1 hi.n
  have hpu := pu_n (i.op - 64768)
  have hpb := pu_n i.a
  have hps : True := trivial
  have hna : True := trivial
  have hnb : True := trivial
  have hco : True := trivial
  have f1 : True := trivial
  have f2 : True := trivial
  have f3 : True := trivial
  unfold insP at hA
  have hop1 := hi.op
  have hol := opB_len i.op
  have hal := uB_len i.a
  have e1 : IntKind.u8.wrap i.op = i.op % 256 := wrap_unsigned (k := .u8) rfl _
  have e3 : IntKind.u64.wrap i.a = i.a % 18446744073709551616 := wrap_unsigned (k := .u64) rfl _
  have e4 : IntKind.u64.wrap i.b = i.b % 18446744073709551616 := wrap_unsigned (k := .u64) rfl _
  rw [hz] at hof hA h4 hg
  unfold PutR
  obtain ⟨B, hB⟩ : ∃ B, restB i z.1.1 = B := ⟨_, rfl⟩
  rw [hB] at hre hA hg h4
  obtain ⟨z1, z2⟩ := z
  simp only at hof hre hA h4 hg
  have hco := fun (o : List Int) (ho : o.length <= 1000000000) => const_ok o ho i hi z1.1
  unfold insC at hre hco ⊢
  refine AC.enter Try.func22 rfl (Nat.le_of_ble_eq_true rfl) ?_
  simp only [Try.f22]
  by_cases hok : z2 = true /\ B = true
  case neg =>
    rw [if_neg hok] at hA
    subst hA
    have hcs : z2 = false \/ (z2 = true /\ B = false) := by
      cases z2 with
      | false => exact .inl rfl
      | true => cases B with
        | false => exact .inr ⟨rfl, rfl⟩
        | true => exact absurd ⟨rfl, rfl⟩ hok
    rcases hcs with rfl | ⟨rfl, rfl⟩
    all_goals
      have nx : True := trivial
      refine' st443840
      all_goals first
        | exact .inr ⟨2, rfl, rfl⟩
        | trace_state
  rw [if_pos hok] at hA
  have h4n : z1.1 ≠ 4 := fun h => h4 ⟨hok, h⟩
  have hgn : ¬ (z1.1 = 6 \/ z1.1 = 7 \/ z1.1 = 8) := fun h => hg ⟨hok, h⟩
  obtain ⟨rfl, rfl⟩ := hok
  clear hz
  have nx : type_of% @e1 /\ True := ⟨@e1, trivial⟩
  refine' st8fbc80
  rename_i Qm hQm hPm
  have hrest : ∀ s : St, s.keep [1, 4, 5, 6] [1, 4, 6] = T8w i z1 (opB i.op) -> Qm .normal s := by
    clear hof hre hpu
    intro s hs
    refine QEq.mp hQm ?_
    simp only [thenQ, Go.Abs.blockQ, ↓reduceIte, Nat.reduceEqDiff]
    refine AW.keep [1, 4, 5, 6] [1, 4, 6] ?_
    rw [hs]
    have hco := hco (opB i.op) (by omega)
    unfold oneP at hA
    generalize opB i.op = o at hol hA hco
    have hlo : List.take o.length o = o := List.take_length
    have hna := xnum_ok i.a
    have hnb := xnum_ok i.b
    have hps := ps_1 i.a hi.a
    have hpl := putS_len 9 i.a (by have := hi.a; simp only [Nat.reduceMul, Int.reducePow, Int.reduceMul]; omega)
    have hpu := pu_n i.b
    have hbl := uB_len i.b
    have sp1 : numB i.a = true \/ numB i.a = false := by cases numB i.a <;> simp
    have sp2 : numB i.b = true \/ numB i.b = false := by cases numB i.b <;> simp
    have e10 : IntKind.u8.wrap i.lo = i.lo % 256 := wrap_unsigned (k := .u8) rfl _
    have hl2 : List.take (o.length + (uB i.a).length + (uB i.b).length) (o ++ uB i.a ++ uB i.b) = o ++ uB i.a ++ uB i.b := by rw [<- List.length_append, <- List.length_append, List.take_length]
    by_cases h1 : z1.1 = 1
    · rw [if_pos h1] at hA
      subst hA
      have nx : type_of% @h1 /\ type_of% @e3 /\ True := ⟨@h1, ⟨@e3, trivial⟩⟩
      refine' st443840
      all_goals first
        | exact .inr ⟨2, rfl, rfl⟩
        | trace_state
    rw [if_neg h1] at hA
    by_cases h2 : z1.1 = 2
    · rw [if_pos h2] at hA
      by_cases hs : i.a = -64 \/ i.a = -1 \/ i.a = -2 \/ i.a = -5
      · rw [if_pos hs] at hA
        subst hA
        have e6 : IntKind.i64.wrap (i.a + 128) = i.a + 128 := wrap64_id _ (by omega) (by omega)
        have e7 : IntKind.u8.wrap (i.a + 128) = (i.a + 128) % 256 := wrap_unsigned (k := .u8) rfl _
        have nx : type_of% @h2 /\ type_of% @e3 /\ type_of% @e6 /\ type_of% @e7 /\ type_of% @hlo /\ True := ⟨@h2, ⟨@e3, ⟨@e6, ⟨@e7, ⟨@hlo, trivial⟩⟩⟩⟩⟩
        refine' st443840
        all_goals first
          | exact .inr ⟨2, by rw [List.length_append]; rfl, rfl⟩
          | trace_state
      · rw [if_neg hs] at hA
        subst hA
        have nx : type_of% @h2 /\ type_of% @e3 /\ True := ⟨@h2, ⟨@e3, trivial⟩⟩
        refine' st2ef7e9
        refine AW.drawT (L0 := (bA 11 0)) (by decide +kernel) hmix ?_
        refine AT.via (bA 11 511) 2 (S2w 77 80 (numB i.a) i (o.length + (putS i.a).length) (o ++ putS i.a)) ?_ (fun hmid => ?_)
        · skip --POST
          have nx : True := trivial
          refine' st9e7d10
          all_goals first
            | exact .inr ⟨2, by rw [List.length_append], rfl⟩
            | trace_state
        have nx : type_of% @hlo /\ type_of% @e4 /\ True := ⟨@hlo, ⟨@e4, trivial⟩⟩
        refine' su574aa2WR3
        all_goals
          refine AT.keep [1, 77, 80] [1, 6] ?_
          first
            | exact hmid
            | trace_state
    rw [if_neg h2] at hA
    by_cases h3 : z1.1 = 3 \/ z1.1 = 5
    · rw [if_pos h3] at hA
      subst hA
      have nx : type_of% @e3 /\ True := ⟨@e3, trivial⟩
      refine' stbbe8c0
      all_goals
        refine AW.drawT (L0 := (bA 8 0)) (by decide +kernel) hmix ?_
        refine AT.via (bA 8 63) 2 (S2w 86 89 (numB i.a) i (o.length + (uB i.a).length) (o ++ uB i.a)) ?_ (fun hmid => ?_)
        · skip --POST
          have nx : True := trivial
          refine' st9e7d10
          all_goals first
            | exact .inr ⟨2, by rw [List.length_append], rfl⟩
            | trace_state
        have nx : type_of% @hlo /\ type_of% @e4 /\ True := ⟨@hlo, ⟨@e4, trivial⟩⟩
        refine' su574aa2WR3
        all_goals
          refine AT.keep [1, 86, 89] [1, 6] ?_
          first
            | exact hmid
            | trace_state
    rw [if_neg h3, if_neg h4n] at hA
    have h6 : ¬ (z1.1 = 6 \/ z1.1 = 7) := by omega
    have h8 : ¬ z1.1 = 8 := by omega
    rw [if_neg h6] at hA
    rw [if_neg h8] at hA
    generalize constP o i z1.1 = y at hA hco
    obtain ⟨y1, y2⟩ := y
    subst hA
    have nx : type_of% @e3 /\ True := ⟨@e3, trivial⟩
    refine' st443840
    all_goals first
      | exact .inr ⟨2, rfl, rfl⟩
      | trace_state
  clear hQm
  by_cases hbig : i.op >= 64768
  · have e2 : IntKind.u64.wrap (i.op - 64768) = (i.op - 64768) % 18446744073709551616 := wrap_unsigned (k := .u64) rfl _
    have e5 : IntKind.i64.wrap (i.op - 64768) = i.op - 64768 := wrap64_id _ (by omega) (by omega)
    have hob : opB i.op = 253 :: uB (i.op - 64768) := if_pos hbig
    have hou := uB_len (i.op - 64768)
    have nx : type_of% @e2 /\ type_of% @e5 /\ True := ⟨@e2, ⟨@e5, trivial⟩⟩
    refine' st443840
    all_goals first
      | exact hrest _ (by rw [hob]; rfl)
      | exact hrest _ (by rw [hob, T8w, show (253 :: uB (i.op - 64768)).length = 1 + (uB (i.op - 64768)).length by simp only [List.length_cons]; omega]; rfl)
      | trace_state
  · have hob : opB i.op = [i.op % 256] := if_neg hbig
    have nx : True := trivial
    refine' st443840
    all_goals first
      | exact hrest _ (by rw [hob]; rfl)
      | trace_state
theorem put_ok (i : Ins) (hi : okIns i) :
    AC Try.prog 22 [.agg (insC i)] (fun v m => v = .tup [.view (insP i).1.length 1 (nums .u8 (insP i).1), .bool (insP i).2] /\ m = []) := by
  refine (put_raw i hi).out fun v m h => ?_
  rcases h with ⟨h0, rfl, rfl⟩ | ⟨k, rfl, rfl⟩
  · refine ⟨_, _, ⟨rfl, rfl⟩, fun S w w' u ho => ho.wk (Wk.tup ?_)⟩
    rw [h0]
    exact .cons (Wk.nils 1) (WkL.refl _)
  · refine ⟨_, _, ⟨rfl, rfl⟩, fun S w w' u ho => ?_⟩
    have h2 := ho.frz
    have e : frz1 k (nums .u8 (insP i).1) (.tup [.ref k 0 (insP i).1.length 1, .bool (insP i).2]) = .tup [.view (insP i).1.length 1 (nums .u8 (insP i).1), .bool (insP i).2] := by
      simp only [frz1, V.frz, V.wipe, List.map_cons, List.map_nil, beq_self_eq_true, cond_true, List.drop_zero, List.take_of_length_le (Nat.le_of_eq ((nums_length .u8 (insP i).1).trans (Nat.mul_one _).symm))]
    rw [e] at h2; exact h2
end Go.Proofs.Yteppkbaeacndiaa
namespace Go.Proofs.Yteppkbaeacndiaa
set_option maxRecDepth 20000
open Go Go.Abs Nat
attribute [local irreducible] AW AWL AC FW CW CWr IntKind.wrap
def T5w (code : List Ins) (o : List Int) (k : Nat) : St := { n := 30, slots := [(4, .ref 4 0 o.length 1), (12, .view code.length 6 (codeC code)), (13, .int .i64 code.length), (14, .int .i64 (k : Int))], mem := [(4, ⟨true, nums .u8 o⟩)] }
theorem drop_getDi (code : List Ins) {k : Nat} (hkl : k < code.length) : code.drop k = code.getD k ins00 :: code.drop (k + 1) := by
  rw [List.drop_eq_getElem_cons hkl, List.getD_eq_getElem?_getD, List.getElem?_eq_getElem hkl]; rfl
theorem MWR5.NM : type_of% @NSX /\ type_of% @St.keepS.eq_1 /\ type_of% @TY /\ type_of% @SLS /\ type_of% @nums_length /\ type_of% @T5w.eq_1 :=
  ⟨NSX, St.keepS.eq_1, @TY, @SLS, @nums_length, @T5w.eq_1⟩
open MWR5
theorem K1WR5.kp {P : Program} {c : Code} {Q : Exit -> St -> Prop} {st : St} (h : AW P c Q (st.keepS [0, 2, 3, 4, 6, 7, 8, 12, 13, 14])) : AW P c Q st := AW.keepS _ h
theorem K1WR5.cl {p : Prop} (h : p := by
  first
    | refine AWL.frzG rfl rfl rfl ?_
    | refine AWL.cC (f := 21) cb21 rfl rfl rfl rfl rfl rfl (hcl) ?_
    | refine AWL.cC (f := 22) cb22 rfl rfl rfl rfl rfl rfl (hpt) ?_
  all_goals (apply_rules (newGoals := .nonDependentOnly) only [dep])
  all_goals constructor) : p := h
theorem K1WR5.sd {p : Prop} (h : p := by first | exact sd1eb496) : p := h
open K1WR5 in
set_option maxHeartbeats 6400000 in
theorem ewrite_raw (code : List Ins) (hi : ∀ i ∈ code, okIns i) (hl : code.length <= 1048576) (hB : (bytP code).length <= 1000000000) :
    AC Try.prog 13 [.view code.length 6 (codeC code)] (fun v m => ((writeS code).1 = [] /\ v = .tup [.nils, .int .i64 (writeS code).2] /\ m = []) \/ ∃ k, v = .tup [.ref k 0 (writeS code).1.length 1, .int .i64 (writeS code).2] /\ m = [(k, nums .u8 (writeS code).1)]) := by
  obtain ⟨A, hA⟩ : ∃ A, writeS code = A := ⟨_, rfl⟩
  rw [hA]
  have hcl := closed_ok code (by omega)
  have hpt : True := trivial
  unfold writeS at hA
  refine AC.enter Try.func13 rfl (Nat.le_of_ble_eq_true rfl) ?_
  simp only [Try.f13]
  by_cases h1 : closedL [] code = true
  case neg =>
    rw [if_neg (fun h => h1 h.1)] at hA
    subst hA
    rw [Bool.not_eq_true] at h1
    rw [h1] at hcl
    have nx : True := trivial
    refine' st5fc436
    all_goals first
      | exact .inl ⟨trivial, rfl, rfl⟩
      | exact .inl ⟨rfl, rfl, rfl⟩
      | exact .inl ⟨trivial, trivial, trivial⟩
      | exact .inr ⟨2, rfl, rfl⟩
      | trace_state
  rw [h1] at hcl
  have nx : True := trivial
  refine' st5fc436
  refine AW.loop [4, 12, 13, 14] [4] (fun m st => ∃ (k : Nat) (o : List Int), st = T5w code o k /\ k <= code.length /\ o ++ bytP (code.drop k) = bytP code /\ allP (code.drop k) = allP code /\ m = code.length - k) ?_ ?_
  · exact ⟨_, 0, [], rfl, Nat.zero_le _, rfl, rfl, rfl⟩
  rintro m st ⟨k, o, rfl, hk, hbo, hal, rfl⟩
  clear hcl
  by_cases hkl : k < code.length
  · have e7 : IntKind.i64.wrap ((k : Int) + 1) = ((k + 1 : Nat) : Int) := wrap64_id _ (by omega) (by omega)
    have hd1 : decide ((k : Int) < (code.length : Int)) = true := decide_eq_true (by omega)
    have l1 := codeC_load code hkl
    have r1 := codeC_room code hkl
    rw [drop_getDi code hkl] at hbo hal
    have hpt := put_ok (code.getD k ins00) (hi _ (by rw [List.getD_eq_getElem?_getD, List.getElem?_eq_getElem hkl]; exact List.getElem_mem hkl))
    have hbo : o ++ ((insP (code.getD k ins00)).1 ++ bytP (code.drop (k + 1))) = bytP code := by rw [<- hbo]; unfold bytP; rw [List.flatMap_cons]
    have hal : ((insP (code.getD k ins00)).2 && allP (code.drop (k + 1))) = allP code := by rw [<- hal]; unfold allP; rw [List.all_cons]
    generalize code.getD k ins00 = i at l1 hbo hal hpt
    generalize insP i = y at hbo hal hpt
    obtain ⟨io, ia, ib, il, ih, ill⟩ := i
    obtain ⟨y1, y2⟩ := y
    unfold insC at l1 hpt
    simp only at hbo hal l1 hpt
    have hlo : List.take o.length o = o := List.take_length
    have hly : (o ++ y1).length <= 1000000000 := by
      have := congrArg List.length hbo
      rw [<- List.append_assoc, List.length_append] at this
      omega
    rw [List.length_append] at hly
    rcases y2 with _ | _
    · rw [Bool.false_and] at hal
      rw [if_neg (fun h => by rw [<- hal] at h; exact absurd h.2 (by decide))] at hA
      subst hA
      have nx : type_of% @e7 /\ type_of% @hd1 /\ type_of% @l1 /\ type_of% @hlo /\ True := ⟨@e7, ⟨@hd1, ⟨@l1, ⟨@hlo, trivial⟩⟩⟩⟩
      refine' st5fc436
      all_goals first
        | exact .inl ⟨trivial, rfl, rfl⟩
        | exact .inl ⟨rfl, rfl, rfl⟩
        | exact .inl ⟨trivial, trivial, trivial⟩
        | exact .inr ⟨2, rfl, rfl⟩
        | trace_state
    · rw [Bool.true_and] at hal
      rw [<- List.append_assoc] at hbo
      have nx : type_of% @e7 /\ type_of% @hd1 /\ type_of% @l1 /\ type_of% @hlo /\ True := ⟨@e7, ⟨@hd1, ⟨@l1, ⟨@hlo, trivial⟩⟩⟩⟩
      refine' st5fc436
      all_goals first
        | exact ⟨code.length - (k + 1), by omega, k + 1, o ++ y1, by rw [T5w, List.length_append]; rfl, by omega, hbo, hal, rfl⟩
        | trace_state
  · have hd1 : decide ((k : Int) < (code.length : Int)) = false := decide_eq_false (by omega)
    rw [List.drop_of_length_le (by omega)] at hbo hal
    have hbo : o = bytP code := by rw [<- hbo]; simp [bytP]
    rw [if_pos ⟨h1, hal.symm⟩] at hA
    subst hA
    have nx : type_of% @hd1 /\ True := ⟨@hd1, trivial⟩
    refine' st5fc436
    all_goals first
      | (rw [<- hbo]; exact .inr ⟨2, rfl, rfl⟩)
      | exact .inr ⟨4, rfl, rfl⟩
      | exact .inr ⟨2, rfl, rfl⟩
      | trace_state
theorem ewrite_ok (code : List Ins) (hi : ∀ i ∈ code, okIns i) (hl : code.length <= 1048576) (hB : (bytP code).length <= 1000000000) :
    AC Try.prog 13 [.view code.length 6 (codeC code)] (fun v m => v = .tup [.view (writeS code).1.length 1 (nums .u8 (writeS code).1), .int .i64 (writeS code).2] /\ m = []) := by
  refine (ewrite_raw code hi hl hB).out fun v m h => ?_
  rcases h with ⟨h0, rfl, rfl⟩ | ⟨k, rfl, rfl⟩
  · refine ⟨_, _, ⟨rfl, rfl⟩, fun S w w' u ho => ho.wk (Wk.tup ?_)⟩
    rw [h0]
    exact .cons (Wk.nils 1) (WkL.refl _)
  · refine ⟨_, _, ⟨rfl, rfl⟩, fun S w w' u ho => ?_⟩
    have h2 := ho.frz
    have e : frz1 k (nums .u8 (writeS code).1) (.tup [.ref k 0 (writeS code).1.length 1, .int .i64 (writeS code).2]) = .tup [.view (writeS code).1.length 1 (nums .u8 (writeS code).1), .int .i64 (writeS code).2] := by
      simp only [frz1, V.frz, V.wipe, List.map_cons, List.map_nil, beq_self_eq_true, cond_true, List.drop_zero, List.take_of_length_le (Nat.le_of_eq ((nums_length .u8 (writeS code).1).trans (Nat.mul_one _).symm))]
    rw [e] at h2; exact h2
end Go.Proofs.Yteppkbaeacndiaa
namespace Go.Proofs.Yteppkbaeacndiaa
set_option maxRecDepth 20000
open Go Go.Abs
theorem drop_ok {b x rest : List Int} {p : Nat} (h : b.drop p = x ++ rest) (hx : x ≠ []) : p + x.length <= b.length /\ b.drop (p + x.length) = rest := by
  have h1 := congrArg List.length h
  have hl : 0 < x.length := by cases x with | nil => exact absurd rfl hx | cons => exact Nat.succ_pos _
  simp only [List.length_drop, List.length_append] at h1
  refine ⟨by omega, ?_⟩
  rw [<- List.drop_drop, h, List.drop_left]
theorem putU_ne (n : Nat) : putU n ≠ [] := by rw [putU]; split <;> simp
theorem putS_ne (n : Int) : putS n ≠ [] := by rw [putS]; split <;> simp
theorem uB_ne (n : Int) : uB n ≠ [] := putU_ne _
theorem u32_at {b rest : List Int} {p : Nat} {n : Int} (hn : 0 <= n /\ n < 4294967296) (h : b.drop p = uB n ++ rest) : u32S b p = (n, (p : Int) + ((uB n).length : Nat)) := by
  have hd := drop_ok h (uB_ne n)
  unfold uB at h hd ⊢
  rw [Int.emod_eq_of_lt hn.1 (by omega)] at h hd ⊢
  have hs : uSpec b p 32 = (n, (p : Int) + ((putU n.toNat).length : Nat), 0) := by
    unfold uSpec
    rw [if_neg (by omega), Int.toNat_natCast, h]
    have := uRd_put 32 rest n.toNat 0 0 p (by decide)
    rw [Nat.mul_zero] at this
    rw [this, if_pos (by show n.toNat < 2 ^ 32; omega)]
    simp only [Int.pow_zero, Int.mul_one, Int.zero_add, Prod.mk.injEq, and_true, true_and]
    omega
  unfold u32S
  rw [hs]
  rw [if_neg (fun h => h rfl)]
theorem s_at {b rest : List Int} {p : Nat} {n bits : Int} (hb : 1 <= bits /\ bits <= 64) (hn : -2 ^ (bits - 1).toNat <= n /\ n < 2 ^ (bits - 1).toNat) (h : b.drop p = putS n ++ rest) : sSpec b p bits = (n, (p : Int) + ((putS n).length : Nat), 0) := by
  have hd := drop_ok h (putS_ne n)
  unfold sSpec
  rw [if_neg (by omega), Int.toNat_natCast, h]
  have := sRd_put bits rest n 0 0 p (by omega) hb.2 (Int.le_refl 0) (by decide)
  rw [Nat.mul_zero] at this
  rw [this, if_pos (by simpa using hn)]
  simp
theorem rows_sep : (allR.all fun r => decide (r.2.1 < 252 \/ 64768 <= r.1) && fltP.all fun p => decide (p.2 < r.1 \/ r.2.1 < p.1)) = true := by decide +kernel
theorem ofS_sep {op : Int} (h : (ofS op).2 = true) : (op < 252 \/ 64768 <= op) /\ flS op = false := by
  unfold ofS at h
  cases hf : findR op allR with
  | none => rw [hf] at h; cases h
  | some r =>
    have hm := findR_mem hf
    have := List.all_eq_true.1 rows_sep r hm.1
    simp only [Bool.and_eq_true, decide_eq_true_eq] at this
    refine ⟨by omega, ?_⟩
    cases e : flS op with
    | false => rfl
    | true =>
      unfold flS at e; rw [List.any_eq_true] at e
      obtain ⟨p, hp, h2⟩ := e
      have h3 := of_decide_eq_true (List.all_eq_true.1 this.2 p hp)
      have h4 := of_decide_eq_true h2
      omega
theorem drop_cons {b rest : List Int} {p : Nat} {x : Int} (h : b.drop p = x :: rest) : p < b.length /\ b.getD p 0 = x /\ b.drop (p + 1) = rest := by
  have h1 := congrArg List.length h
  simp only [List.length_drop, List.length_cons] at h1
  have hp : p < b.length := by omega
  rw [drop_getD hp] at h
  injection h with h2 h3
  exact ⟨hp, h2, h3⟩
theorem opc_at {b rest : List Int} {p : Nat} {op : Int} (ho : (ofS op).2 = true) (h : b.drop p = opB op ++ rest) : opcS b p = (op, (p : Int) + ((opB op).length : Nat), 0) := by
  have hr := ofS_yes ho
  obtain ⟨hs, hf⟩ := ofS_sep ho
  have hk : ∀ q, opkS op q = (op, q, 0) := fun q => by unfold opkS; rw [if_neg (by rw [hf]; decide), if_pos ho]
  unfold opB at h ⊢
  by_cases hb : op >= 64768
  · rw [if_pos hb] at h ⊢
    obtain ⟨h1, h2, h3⟩ := drop_cons (rest := uB (op - 64768) ++ rest) h
    have hu := u32_at (p := p + 1) ⟨by omega, by omega⟩ h3
    unfold opcS
    rw [if_neg (by omega), Int.toNat_natCast, h2]
    rw [show ((p : Int) + 1) = ((p + 1 : Nat) : Int) by omega, hu]
    rw [if_pos (.inr rfl), if_neg (by simp only; omega), if_neg (fun h => absurd h.1 (by decide)), if_neg (fun h => h.elim (by decide) (by simp only; omega))]
    simp only
    rw [show 64768 + (op - 64768) = op by omega, hk]
    simp only [List.length_cons, Prod.mk.injEq, true_and, and_true]
    omega
  · rw [if_neg hb] at h ⊢
    obtain ⟨h1, h2, h3⟩ := drop_cons (rest := rest) h
    have e : op % 256 = op := Int.emod_eq_of_lt hr.1.1 (by omega)
    rw [e] at h2
    unfold opcS
    rw [if_neg (by omega), Int.toNat_natCast, h2, if_neg (by omega), hk]
    simp
def tailB (i : Ins) (form : Int) : List Int :=
  if form = 1 then []
  else if form = 2 then (if i.a = -64 \/ i.a = -1 \/ i.a = -2 \/ i.a = -5 then [(i.a + 128) % 256] else putS i.a)
  else if form = 3 \/ form = 5 then uB i.a
  else if form = 4 then uB i.l.length ++ i.l.flatMap uB ++ uB i.a
  else if form = 6 \/ form = 7 then uB i.a ++ uB i.b
  else if form = 8 then uB i.a ++ uB i.b ++ [i.lo % 256]
  else (constP [] i form).1
theorem const_app (out : List Int) (i : Ins) (form : Int) : (constP out i form).1 = out ++ (constP [] i form).1 /\ (constP out i form).2 = (constP [] i form).2 := by
  unfold constP
  repeat' split
  all_goals exact ⟨by simp, rfl⟩
theorem oneP_eq (i : Ins) (form : Int) : (oneP i form).1 = opB i.op ++ tailB i form := by
  unfold oneP tailB
  repeat' split
  all_goals first
    | exact (const_app _ i form).1
    | simp
theorem knd_at {b rest : List Int} {p : Nat} {a : Int} (hok : (a = -64 \/ a = -1 \/ a = -2 \/ a = -5) \/ numB a = true) (h : b.drop p = (if a = -64 \/ a = -1 \/ a = -2 \/ a = -5 then [(a + 128) % 256] else putS a) ++ rest) : kndS b p = (a, (p : Int) + ((if a = -64 \/ a = -1 \/ a = -2 \/ a = -5 then [(a + 128) % 256] else putS a).length : Nat), 0) := by
  by_cases hs : a = -64 \/ a = -1 \/ a = -2 \/ a = -5
  · rw [if_pos hs] at h ⊢
    obtain ⟨h1, h2, h3⟩ := drop_cons (rest := rest) h
    unfold kndS
    rw [Int.toNat_natCast, h2]
    rw [if_neg (fun h => by have := h.2; unfold floatC at this; omega), if_pos ⟨by omega, by unfold kindC; omega⟩]
    simp only [List.length_cons, List.length_nil, Prod.mk.injEq, and_true]
    omega
  · rw [if_neg hs] at h ⊢
    have hn : 0 <= a /\ a < 4294967296 := of_decide_eq_true (hok.resolve_left hs)
    have hsp := s_at (bits := 33) ⟨by decide, by decide⟩ (by show -2 ^ 32 <= a /\ a < 2 ^ 32; simp only [Int.reducePow]; omega) h
    have hf : ∃ x t, putS a = x :: t /\ ¬ floatC x /\ ¬ kindC x := by
      by_cases h6 : -64 <= a /\ a <= 63
      · refine ⟨a % 128, [], by rw [putS, if_pos h6], ?_, ?_⟩
        · unfold floatC; omega
        · unfold kindC; omega
      · refine ⟨a % 128 + 128, putS (a / 128), by rw [putS, if_neg h6], ?_, ?_⟩
        · unfold floatC; omega
        · unfold kindC; omega
    obtain ⟨x, t, hx, hx1, hx2⟩ := hf
    have hd := h
    rw [hx] at hd
    obtain ⟨h1, h2, h3⟩ := drop_cons (rest := t ++ rest) hd
    unfold kndS
    rw [Int.toNat_natCast, h2, if_neg (fun h => hx1 h.2), if_neg (fun h => hx2 h.2), hsp, if_neg (fun h => h.elim (fun h => h rfl) (by simp only; omega))]
theorem tb_at {b : List Int} : ∀ (l : List Int) (p : Nat) (rest acc : List Int), (∀ x ∈ l, numB x = true) -> b.drop p = l.flatMap uB ++ rest -> tbR b l.length p acc = (acc ++ l, (p : Int) + ((l.flatMap uB).length : Nat))
  | [], p, rest, acc, _, h => by simp [tbR]
  | x :: l, p, rest, acc, hl, h => by
    have hx : 0 <= x /\ x < 4294967296 := of_decide_eq_true (hl x (List.mem_cons_self ..))
    rw [List.flatMap_cons, List.append_assoc] at h
    have hu := u32_at hx h
    have hd := drop_ok h (uB_ne x)
    rw [List.length_cons, tbR, if_pos (by omega), hu]
    simp only
    have ih := tb_at l (p + (uB x).length) rest (acc ++ [x]) (fun y hy => hl y (List.mem_cons_of_mem _ hy)) hd.2
    rw [show (p : Int) + ((uB x).length : Nat) = ((p + (uB x).length : Nat) : Int) by omega, ih]
    simp only [List.flatMap_cons, List.length_append, List.append_assoc, List.singleton_append, Prod.mk.injEq, true_and]
    omega
end Go.Proofs.Yteppkbaeacndiaa
namespace Go.Proofs.Yteppkbaeacndiaa
set_option maxRecDepth 20000
open Go Go.Abs
theorem i32_mod {n : Int} (h : 0 <= n /\ n < 4294967296) : i32 n % 4294967296 = n := by
  unfold i32
  show (if (true && decide (n % 4294967296 >= 2147483648)) = true then n % 4294967296 - 4294967296 else n % 4294967296) % 4294967296 = n
  split <;> omega
theorem i64_mod {n : Int} (h : 0 <= n /\ n < 18446744073709551616) : i64 n % 18446744073709551616 = n := by
  unfold i64
  show (if (true && decide (n % 18446744073709551616 >= 9223372036854775808)) = true then n % 18446744073709551616 - 18446744073709551616 else n % 18446744073709551616) % 18446744073709551616 = n
  split <;> omega
theorem join_lh {l h : Int} (hl : 0 <= l /\ l < 18446744073709551616) (hh : 0 <= h /\ h < 18446744073709551616) : lo (join l h) = l /\ hi (join l h) = h /\ (join l h).length = 16 := by
  unfold lo hi join
  have h8 : (toB 8 l).length = 8 := toB_len 8 l
  refine ⟨?_, ?_, by rw [List.length_append, toB_len, toB_len]⟩
  · rw [List.take_append_of_le_length (by omega), List.take_of_length_le (by omega), le_toB]
    exact Int.emod_eq_of_lt hl.1 hl.2
  · rw [List.drop_append, List.drop_of_length_le (by omega), List.nil_append, h8, Nat.sub_self, List.drop_zero, le_toB]
    exact Int.emod_eq_of_lt hh.1 hh.2
theorem done_at (i : Ins) {q : Int} (h : 0 <= q) : doneS i q = (i, q, 0) := if_neg (by omega)
theorem num2_at {b rest : List Int} {p : Nat} {n : Int} (hn : 0 <= n /\ n < 4294967296) (h : b.drop p = uB n ++ rest) : numR2 b p = (n, (p : Int) + ((uB n).length : Nat)) := by
  unfold numR2; rw [if_pos (by omega)]; exact u32_at hn h
theorem ins_ext {i : Ins} {o a b l h : Int} {ll : List Int} (h1 : i.op = o) (h2 : i.a = a) (h3 : i.b = b) (h4 : i.lo = l) (h5 : i.hi = h) (h6 : i.l = ll) : (⟨o, a, b, l, h, ll⟩ : Ins) = i := by
  cases i; simp only at *; subst h1 h2 h3 h4 h5 h6; rfl
theorem zq4_iff {a b lo hi : Int} (h : zq4 a b lo hi = true) : a = 0 /\ b = 0 /\ lo = 0 /\ hi = 0 := of_decide_eq_true h
theorem fld_at {b rest : List Int} {p : Nat} {i : Ins} (hi : okIns i) {form : Int} (hf : 1 <= form /\ form <= 14) (hr : restB i form = true) (hok : (oneP i form).2 = true) (h : b.drop p = tailB i form ++ rest) (hp : p <= b.length) :
    fldR b p ⟨i.op, 0, 0, 0, 0, []⟩ form = (i, (p : Int) + ((tailB i form).length : Nat), 0) := by
  have hl0 : form ≠ 4 -> i.l = [] := fun h4 => by
    unfold restB at hr
    by_cases hl : i.l.length > 0
    · rw [if_pos ⟨h4, hl⟩] at hr; cases hr
    · exact List.eq_nil_of_length_eq_zero (by omega)
  have hcs : form = 1 \/ form = 2 \/ form = 3 \/ form = 4 \/ form = 5 \/ form = 6 \/ form = 7 \/ form = 8 \/ form = 9 \/ form = 10 \/ form = 11 \/ form = 12 \/ form = 13 \/ form = 14 := by omega
  rcases hcs with rfl | rfl | rfl | rfl | rfl | rfl | rfl | rfl | rfl | rfl | rfl | rfl | rfl | rfl
  all_goals
    unfold restB at hr
    unfold oneP at hok
    unfold tailB at h ⊢
    unfold fldR
    simp only [Int.reduceEq, ↓reduceIte, or_false, or_true, true_or, false_or, or_self, ne_eq, not_true_eq_false, not_false_eq_true, false_and, true_and, and_true] at hr hok h ⊢
  · have hl := hl0 (by decide)
    rw [hl] at hr
    simp only [List.length_nil, gt_iff_lt, Nat.lt_irrefl, ↓reduceIte] at hr
    obtain ⟨e1, e2, e3, e4⟩ := zq4_iff hr
    simp only [List.length_nil, Prod.mk.injEq, and_true]
    exact ⟨ins_ext rfl e1 e2 e3 e4 hl, by omega⟩
  · have hl := hl0 (by decide)
    rw [hl] at hr
    simp only [List.length_nil, gt_iff_lt, Nat.lt_irrefl, ↓reduceIte] at hr
    obtain ⟨_, e2, e3, e4⟩ := zq4_iff hr
    have hk := knd_at (a := i.a) (by
      by_cases hs : i.a = -64 \/ i.a = -1 \/ i.a = -2 \/ i.a = -5
      · exact .inl hs
      · rw [if_neg hs] at hok; exact .inr hok) h
    rw [hk]
    simp only [Prod.mk.injEq, and_true]
    exact ins_ext rfl rfl e2 e3 e4 hl
  · have hl := hl0 (by decide)
    rw [hl] at hr
    simp only [List.length_nil, gt_iff_lt, Nat.lt_irrefl, ↓reduceIte] at hr
    obtain ⟨_, e2, e3, e4⟩ := zq4_iff hr
    rw [u32_at (of_decide_eq_true hok) h]
    rw [done_at _ (by simp only; omega)]
    simp only [Prod.mk.injEq, and_true]
    exact ins_ext rfl rfl e2 e3 e4 hl
  · obtain ⟨_, e2, e3, e4⟩ := zq4_iff hr
    simp only [Bool.and_eq_true] at hok
    rw [List.append_assoc, List.append_assoc] at h
    have hn := hi.n
    have h0 : 0 <= (i.l.length : Int) /\ (i.l.length : Int) < 4294967296 := by omega
    have hd := drop_ok h (uB_ne _)
    rw [u32_at h0 h]
    simp only [Int.toNat_natCast]
    have ht := tb_at i.l (p + (uB (i.l.length : Int)).length) (uB i.a ++ rest) [] (List.all_eq_true.1 hok.1) hd.2
    rw [show (p : Int) + ((uB (i.l.length : Int)).length : Nat) = ((p + (uB (i.l.length : Int)).length : Nat) : Int) by omega, ht]
    have hd3 : b.drop (p + (uB (i.l.length : Int)).length + (i.l.flatMap uB).length) = uB i.a ++ rest := by rw [<- List.drop_drop, hd.2, List.drop_left]
    have ha := num2_at (of_decide_eq_true hok.2) hd3
    simp only
    rw [show ((p + (uB (i.l.length : Int)).length : Nat) : Int) + ((i.l.flatMap uB).length : Nat) = ((p + (uB (i.l.length : Int)).length + (i.l.flatMap uB).length : Nat) : Int) by omega, ha]
    simp only
    rw [done_at _ (by omega)]
    simp only [List.nil_append, List.length_append, Prod.mk.injEq, and_true]
    exact ⟨ins_ext rfl rfl e2 e3 e4 rfl, by omega⟩
  · have hl := hl0 (by decide)
    rw [hl] at hr
    simp only [List.length_nil, gt_iff_lt, Nat.lt_irrefl, ↓reduceIte] at hr
    obtain ⟨_, e2, e3, e4⟩ := zq4_iff hr
    rw [u32_at (of_decide_eq_true hok) h]
    rw [done_at _ (by simp only; omega)]
    simp only [Prod.mk.injEq, and_true]
    exact ins_ext rfl rfl e2 e3 e4 hl
  · have hl := hl0 (by decide)
    rw [hl] at hr
    simp only [List.length_nil, gt_iff_lt, Nat.lt_irrefl, ↓reduceIte] at hr
    obtain ⟨_, _, e3, e4⟩ := zq4_iff hr
    simp only [Bool.and_eq_true] at hok
    rw [List.append_assoc] at h
    have hd := drop_ok h (uB_ne _)
    rw [u32_at (of_decide_eq_true hok.1) h]
    simp only
    have hb := num2_at (of_decide_eq_true hok.2) hd.2
    rw [show (p : Int) + ((uB i.a).length : Nat) = ((p + (uB i.a).length : Nat) : Int) by omega, hb]
    simp only
    rw [done_at _ (by omega)]
    simp only [List.length_append, Prod.mk.injEq, and_true]
    exact ⟨ins_ext rfl rfl rfl e3 e4 hl, by omega⟩
  · have hl := hl0 (by decide)
    rw [hl] at hr
    simp only [List.length_nil, gt_iff_lt, Nat.lt_irrefl, ↓reduceIte] at hr
    obtain ⟨_, _, e3, e4⟩ := zq4_iff hr
    simp only [Bool.and_eq_true] at hok
    rw [List.append_assoc] at h
    have hd := drop_ok h (uB_ne _)
    rw [u32_at (of_decide_eq_true hok.1) h]
    simp only
    have hb := num2_at (of_decide_eq_true hok.2) hd.2
    rw [show (p : Int) + ((uB i.a).length : Nat) = ((p + (uB i.a).length : Nat) : Int) by omega, hb]
    simp only
    rw [done_at _ (by omega)]
    simp only [List.length_append, Prod.mk.injEq, and_true]
    exact ⟨ins_ext rfl rfl rfl e3 e4 hl, by omega⟩
  · have hl := hl0 (by decide)
    rw [hl] at hr
    simp only [List.length_nil, gt_iff_lt, Nat.lt_irrefl, ↓reduceIte] at hr
    obtain ⟨_, _, _, e4⟩ := zq4_iff hr
    simp only [Bool.and_eq_true] at hok
    rw [List.append_assoc, List.append_assoc] at h
    have hd := drop_ok h (uB_ne _)
    rw [u32_at (of_decide_eq_true hok.1.1) h]
    simp only
    have hb := num2_at (of_decide_eq_true hok.1.2) hd.2
    have hd2 := drop_ok hd.2 (uB_ne _)
    obtain ⟨c1, c2, c3⟩ := drop_cons (rest := rest) hd2.2
    have hlo : i.lo % 256 = i.lo := by have := of_decide_eq_true hok.2; have := hi.lo; omega
    rw [show (p : Int) + ((uB i.a).length : Nat) = ((p + (uB i.a).length : Nat) : Int) by omega, hb]
    simp only
    rw [if_neg (by omega), if_pos (by omega), done_at _ (by omega)]
    rw [show ((p + (uB i.a).length : Nat) : Int) + ((uB i.b).length : Nat) = ((p + (uB i.a).length + (uB i.b).length : Nat) : Int) by omega, Int.toNat_natCast, c2]
    simp only [List.length_append, List.length_cons, List.length_nil, Prod.mk.injEq, and_true]
    exact ⟨ins_ext rfl rfl rfl hlo.symm e4 hl, by omega⟩
  · have hl := hl0 (by decide)
    rw [hl] at hr
    simp only [List.length_nil, gt_iff_lt, Nat.lt_irrefl, ↓reduceIte] at hr
    obtain ⟨e1, e2, _, e4⟩ := zq4_iff hr
    unfold constP at hok h ⊢
    simp only [Int.reduceEq, ↓reduceIte, List.nil_append] at hok h ⊢
    have hlo := of_decide_eq_true hok
    have hb := i32_b i.lo
    rw [s_at (bits := 32) ⟨by decide, by decide⟩ (by show -2 ^ 31 <= _ /\ _ < 2 ^ 31; simp only [Int.reducePow]; omega) h]
    simp only [not_true_eq_false, ↓reduceIte]
    rw [done_at _ (by omega), i32_mod ⟨hi.lo.1, hlo⟩]
    simp only [Prod.mk.injEq, and_true]
    exact ins_ext rfl e1 e2 rfl e4 hl
  · have hl := hl0 (by decide)
    rw [hl] at hr
    simp only [List.length_nil, gt_iff_lt, Nat.lt_irrefl, ↓reduceIte] at hr
    obtain ⟨e1, e2, _, e4⟩ := zq4_iff hr
    unfold constP at hok h ⊢
    simp only [Int.reduceEq, ↓reduceIte, List.nil_append] at hok h ⊢
    have hb := i64_b i.lo
    rw [s_at (bits := 64) ⟨by decide, by decide⟩ (by show -2 ^ 63 <= _ /\ _ < 2 ^ 63; simp only [Int.reducePow]; omega) h]
    simp only [not_true_eq_false, ↓reduceIte]
    rw [done_at _ (by omega), i64_mod hi.lo]
    simp only [Prod.mk.injEq, and_true]
    exact ins_ext rfl e1 e2 rfl e4 hl
  · have hl := hl0 (by decide)
    rw [hl] at hr
    simp only [List.length_nil, gt_iff_lt, Nat.lt_irrefl, ↓reduceIte] at hr
    obtain ⟨e1, e2, _, _⟩ := zq4_iff hr
    unfold constP at hok h ⊢
    simp only [Int.reduceEq, ↓reduceIte, List.nil_append] at hok h ⊢
    obtain ⟨j1, j2, j3⟩ := join_lh hi.lo hi.hi
    have hd := drop_ok h (by intro hh; rw [hh] at j3; cases j3)
    unfold bytR
    simp only [Int.reduceEq, ↓reduceIte, or_false, or_true, true_or]
    rw [if_neg (by rw [j3] at hd; omega), Int.toNat_natCast, h, List.take_append_of_le_length (by omega), List.take_of_length_le (by omega), j1, j2, j3]
    simp only [Prod.mk.injEq, and_true]
    exact ⟨ins_ext rfl e1 e2 rfl rfl hl, by omega⟩
  · have hl := hl0 (by decide)
    rw [hl] at hr
    simp only [List.length_nil, gt_iff_lt, Nat.lt_irrefl, ↓reduceIte] at hr
    obtain ⟨e1, e2, _, _⟩ := zq4_iff hr
    unfold constP at hok h ⊢
    simp only [Int.reduceEq, ↓reduceIte, List.nil_append] at hok h ⊢
    obtain ⟨j1, j2, j3⟩ := join_lh hi.lo hi.hi
    have hd := drop_ok h (by intro hh; rw [hh] at j3; cases j3)
    unfold bytR
    simp only [Int.reduceEq, ↓reduceIte, or_false, or_true, true_or]
    rw [if_neg (by rw [j3] at hd; omega), Int.toNat_natCast, h, List.take_append_of_le_length (by omega), List.take_of_length_le (by omega), j1, j2, j3]
    simp only [Prod.mk.injEq, and_true]
    exact ⟨ins_ext rfl e1 e2 rfl rfl hl, by omega⟩
  · have hl := hl0 (by decide)
    rw [hl] at hr
    simp only [List.length_nil, gt_iff_lt, Nat.lt_irrefl, ↓reduceIte] at hr
    obtain ⟨_, e2, e3, e4⟩ := zq4_iff hr
    unfold constP at hok h ⊢
    simp only [Int.reduceEq, ↓reduceIte, List.nil_append] at hok h ⊢
    obtain ⟨c1, c2, c3⟩ := drop_cons (rest := rest) h
    have ha := of_decide_eq_true hok
    unfold bytR
    simp only [Int.reduceEq, ↓reduceIte, or_self, false_and, or_false, ge_iff_le]
    rw [if_neg (by omega), Int.toNat_natCast, c2]
    simp only [List.length_cons, List.length_nil, Prod.mk.injEq, and_true]
    exact ⟨ins_ext rfl (by omega) e2 e3 e4 hl, by omega⟩
  · have hl := hl0 (by decide)
    rw [hl] at hr
    simp only [List.length_nil, gt_iff_lt, Nat.lt_irrefl, ↓reduceIte] at hr
    obtain ⟨e1, e2, e3, e4⟩ := zq4_iff hr
    unfold constP at hok h ⊢
    simp only [Int.reduceEq, ↓reduceIte, List.nil_append] at hok h ⊢
    obtain ⟨c1, c2, c3⟩ := drop_cons (rest := rest) h
    unfold bytR
    simp only [Int.reduceEq, ↓reduceIte, or_self, true_and]
    rw [Int.toNat_natCast, c2, if_neg (fun h => h.elim (by omega) (fun h => h rfl))]
    simp only [List.length_cons, List.length_nil, Prod.mk.injEq, and_true]
    exact ⟨ins_ext rfl e1 e2 e3 e4 hl, by omega⟩
end Go.Proofs.Yteppkbaeacndiaa
namespace Go.Proofs.Yteppkbaeacndiaa
set_option maxRecDepth 20000
open Go Go.Abs
theorem insP_yes {i : Ins} (h : (insP i).2 = true) : (ofS i.op).2 = true /\ restB i (ofS i.op).1.1 = true /\ (oneP i (ofS i.op).1.1).2 = true /\ (insP i).1 = opB i.op ++ tailB i (ofS i.op).1.1 := by
  unfold insP at *
  by_cases c : (ofS i.op).2 = true /\ restB i (ofS i.op).1.1 = true
  · rw [if_pos c] at h ⊢
    exact ⟨c.1, c.2, h, oneP_eq _ _⟩
  · rw [if_neg c] at h; cases h
theorem opB_ne (op : Int) : opB op ≠ [] := by unfold opB; split <;> simp
theorem insP_ne {i : Ins} (h : (insP i).2 = true) : (insP i).1 ≠ [] := by
  rw [(insP_yes h).2.2.2]
  intro hh
  exact opB_ne _ (List.append_eq_nil_iff.1 hh).1
theorem readL_put {b : List Int} (hb : bytes b) : ∀ (code : List Ins) (o j : List Int) (l : List Ins) (p : Nat) (rest : List Int) (n : Nat), closedL o code = true -> (∀ i ∈ code, okIns i /\ (insP i).2 = true) -> b.drop p = bytP code ++ rest -> p <= b.length -> code.length <= n ->
    readL b n ⟨p, o, j, 0⟩ l = (l ++ code, (p : Int) + ((bytP code).length : Nat), 0)
  | [], o, _, _, _, _, _, hc, _, _, _, _ => by rw [closedL] at hc; cases hc
  | i :: t, o, j, l, p, rest, n, hc, hi, hd, hp, hn => by
    obtain ⟨n', rfl⟩ : ∃ n', n = n' + 1 := ⟨n - 1, by simp only [List.length_cons] at hn; omega⟩
    obtain ⟨hok, hy⟩ := hi i (List.mem_cons_self ..)
    obtain ⟨h1, h2, h3, h4⟩ := insP_yes hy
    have hbp : bytP (i :: t) = opB i.op ++ (tailB i (ofS i.op).1.1 ++ bytP t) := by
      unfold bytP; rw [List.flatMap_cons, h4, List.append_assoc]
    rw [hbp, List.append_assoc, List.append_assoc] at hd
    have ho := opc_at h1 hd
    have hd1 := drop_ok hd (opB_ne _)
    have hf := fld_at hok (ofS_yes h1).2 h2 h3 hd1.2 hd1.1
    have hd2 : b.drop (p + (opB i.op).length + (tailB i (ofS i.op).1.1).length) = bytP t ++ rest := by rw [<- List.drop_drop, hd1.2, List.drop_left]
    have hlen : (p + (opB i.op).length + (tailB i (ofS i.op).1.1).length) <= b.length := by
      have := congrArg List.length hd1.2
      simp only [List.length_drop, List.length_append] at this
      omega
    have hst := step_cases hb (k := p) (o := o) (j := j) (l := l) (n := n') ⟨by simp only; omega, by simp only; omega⟩ rfl
    rw [ho] at hst
    simp only [ne_eq, not_true_eq_false, false_and, false_or, true_and] at hst
    have hst := hst.2.2 _ rfl
    rw [show (p : Int) + ((opB i.op).length : Nat) = ((p + (opB i.op).length : Nat) : Int) by omega, hf] at hst
    simp only [ne_eq, not_true_eq_false, false_and, false_or, true_and] at hst
    have hr := hst.2
    rw [show ((p + (opB i.op).length : Nat) : Int) + ((tailB i (ofS i.op).1.1).length : Nat) = ((p + (opB i.op).length + (tailB i (ofS i.op).1.1).length : Nat) : Int) by omega] at hr
    have hl2 : (bytP (i :: t)).length = (opB i.op).length + (tailB i (ofS i.op).1.1).length + (bytP t).length := by rw [hbp, List.length_append, List.length_append]; omega
    have hgo : ∀ (o' j' : List Int), closedL o' t = true -> readL b n' ⟨((p + (opB i.op).length + (tailB i (ofS i.op).1.1).length : Nat) : Int), o', j', 0⟩ (l ++ [i]) = (l ++ i :: t, (p : Int) + ((bytP (i :: t)).length : Nat), 0) := fun o' j' hc' => by
      rw [readL_put hb t o' j' (l ++ [i]) _ rest n' hc' (fun x hx => hi x (List.mem_cons_of_mem _ hx)) hd2 hlen (by simp only [List.length_cons] at hn; omega), hl2]
      simp only [List.append_assoc, List.singleton_append, Prod.mk.injEq, true_and, and_true]
      omega
    unfold Rnd at hr
    have hcc := closed_cases hc
    rcases hcc with ⟨g1, g2, g3⟩ | ⟨g1, g2, g3⟩ | ⟨g1, g2, g3⟩ | ⟨g1, ⟨g2, g4⟩, g3⟩ | ⟨g1, ⟨g2, g4⟩, g3⟩ | ⟨g1, g2, g3⟩ | ⟨g1, g2, g3⟩ | ⟨g1, g3⟩ <;>
    rcases hr with ⟨r1, r2, r3⟩ | ⟨r1, r2, r3⟩ | ⟨r1, r2, r3⟩ | ⟨r1, ⟨r2, r4⟩, r3⟩ | ⟨r1, ⟨r2, r4⟩, r3⟩ | ⟨r1, r2, r3⟩ | ⟨r1, r2, r3⟩ | ⟨r1, r3⟩
    all_goals first
      | (cases g3; done)
      | (exfalso; omega)
      | (rw [<- r3]; exact hgo _ _ g3)
      | (have ht : t = [] := List.eq_nil_of_length_eq_zero (of_decide_eq_true g3.symm)
         subst ht
         rw [r3, hl2]
         simp only [bytP, List.flatMap_nil, List.length_nil, Prod.mk.injEq, true_and, and_true]
         omega)
theorem bytP_len : ∀ (code : List Ins), (∀ i ∈ code, (insP i).2 = true) -> code.length <= (bytP code).length
  | [], _ => Nat.le_refl _
  | i :: t, h => by
    have ih := bytP_len t (fun x hx => h x (List.mem_cons_of_mem _ hx))
    have hne := insP_ne (h i (List.mem_cons_self ..))
    have : 0 < (insP i).1.length := by cases hh : (insP i).1 with | nil => exact absurd hh hne | cons => exact Nat.succ_pos _
    have e : bytP (i :: t) = (insP i).1 ++ bytP t := List.flatMap_cons ..
    rw [e, List.length_append, List.length_cons]; omega
theorem readS_put {pre post : List Int} {code : List Ins} (hb : bytes (pre ++ bytP code ++ post)) (hc : closedL [] code = true) (hi : ∀ i ∈ code, okIns i /\ (insP i).2 = true) :
    readS (pre ++ bytP code ++ post) pre.length = (code, (pre.length : Int) + ((bytP code).length : Nat), 0) := by
  have hl := bytP_len code (fun i h => (hi i h).2)
  unfold readS
  rw [if_neg (by simp only [List.length_append]; omega)]
  have := readL_put hb code [] [] [] pre.length post ((pre ++ bytP code ++ post).length + 1) hc hi (by rw [List.append_assoc, List.drop_left]) (by simp only [List.length_append]; omega) (by simp only [List.length_append]; omega)
  rw [this, List.nil_append]
end Go.Proofs.Yteppkbaeacndiaa
namespace Go.Proofs.Yteppkbaeacndiaa
set_option maxRecDepth 20000
open Go Go.Abs
theorem pow7s (k : Nat) : (2 : Int) ^ (7 * (k + 1)) = 128 * 2 ^ (7 * k) := by
  rw [show 7 * (k + 1) = 7 * k + 7 by omega, Int.pow_add, Int.mul_comm]; rfl
theorem uRd_short (bits : Int) : ∀ (xs : List Int) (k : Nat) (v at_ : Int), bytes xs -> (uRd bits xs (7 * k) v at_).2.2 = 0 ->
    ∃ m : Nat, (uRd bits xs (7 * k) v at_).1 = v + m * 2 ^ (7 * k) /\ ((putU m).length : Int) <= (uRd bits xs (7 * k) v at_).2.1 - at_
  | [], _, _, _, _, h => by simp [uRd] at h
  | x :: t, k, v, at_, hb, h => by
    have hx := hb x (List.mem_cons_self ..)
    rw [uRd] at h ⊢
    split at h
    · cases h
    · rename_i c
      rw [if_neg c]
      by_cases h128 : x < 128
      · rw [if_pos h128] at h ⊢
        refine ⟨(x % 128).toNat, ?_, ?_⟩
        · simp only; rw [Int.toNat_of_nonneg (by omega)]
        · rw [putU, if_pos (by omega)]; simp only [List.length_cons, List.length_nil]; omega
      · rw [if_neg h128] at h ⊢
        rw [show 7 * k + 7 = 7 * (k + 1) by omega] at h ⊢
        obtain ⟨m, h1, h2⟩ := uRd_short bits t (k + 1) _ _ (fun y hy => hb y (List.mem_cons_of_mem _ hy)) h
        refine ⟨(x % 128).toNat + 128 * m, ?_, ?_⟩
        · rw [h1, pow7s, Int.natCast_add, Int.natCast_mul, Int.toNat_of_nonneg (by omega), Int.add_mul, Int.add_assoc]
          congr 2
          rw [<- Int.mul_assoc, Int.mul_comm (m : Int)]; rfl
        · rw [putU]
          split
          · simp only [List.length_cons, List.length_nil]; omega
          · rw [show ((x % 128).toNat + 128 * m) / 128 = m by omega, List.length_cons]; omega
theorem u32_short {b : List Int} (hb : bytes b) {p : Int} (h0 : 0 <= p /\ p <= b.length) (h : 0 <= (u32S b p).2) : ((uB (u32S b p).1).length : Int) <= (u32S b p).2 - p := by
  unfold u32S at h ⊢
  by_cases c : (uSpec b p 32).2.2 = 0
  · rw [if_neg (fun h => h c)] at h ⊢
    have hb2 := uSpec_ok hb h0 c
    unfold uSpec at c hb2 ⊢
    rw [if_neg (by omega)] at c hb2 ⊢
    obtain ⟨m, h1, h2⟩ := uRd_short 32 (b.drop p.toNat) 0 0 p (fun x hx => hb x (List.mem_of_mem_drop hx)) c
    rw [Nat.mul_zero] at h1 h2
    simp only at hb2 ⊢
    have e : ((uRd 32 (b.drop p.toNat) 0 0 p).1 % 18446744073709551616).toNat = m := by
      rw [h1] at hb2 ⊢
      simp only [Int.pow_zero, Int.mul_one, Int.zero_add] at hb2 ⊢
      omega
    unfold uB
    rw [e]; exact h2
  · rw [if_pos c] at h; exact absurd h (by decide)
theorem sRd_short (bits : Int) (h64 : bits <= 64) : ∀ (xs : List Int) (k : Nat) (v at_ : Int), bytes xs -> 0 <= v -> v < 2 ^ (7 * k) -> 7 * (k : Int) < bits -> (sRd bits xs (7 * k) v at_).2.2 = 0 ->
    ∃ m : Int, (sRd bits xs (7 * k) v at_).1 = v + m * 2 ^ (7 * k) /\ ((putS m).length : Int) <= (sRd bits xs (7 * k) v at_).2.1 - at_ /\ -2 ^ (bits - 7 * k - 1).toNat <= m /\ m < 2 ^ (bits - 7 * k - 1).toNat
  | [], _, _, _, _, _, _, _, h => by simp [sRd] at h
  | x :: t, k, v, at_, hb, hv0, hv1, hk, h => by
    have hx := hb x (List.mem_cons_self ..)
    have hp : (0 : Int) < 2 ^ (7 * k) := Int.pow_pos (by decide)
    rw [sRd] at h ⊢
    split at h
    · cases h
    · rename_i c
      rw [if_neg c]
      by_cases h128 : x < 128
      · rw [if_pos h128] at h ⊢
        have hsx : -64 <= sx x /\ sx x <= 63 := by unfold sx; split <;> omega
        refine ⟨sx x, ?_, ?_, ?_⟩
        · simp only
          unfold sext sx
          rw [show 7 * k + 7 - 1 = 7 * k + 6 by omega, Int.pow_add, Int.pow_add, show (2 : Int) ^ 6 = 64 from rfl, show (2 : Int) ^ 7 = 128 from rfl]
          generalize (2 : Int) ^ (7 * k) = P at *
          have hy : 0 <= x % 128 /\ x % 128 < 128 := by omega
          generalize x % 128 = y at *
          by_cases h6 : y >= 64
          · rw [if_pos h6, if_neg (by
              have := Int.mul_le_mul_of_nonneg_right (c := P) h6 (by omega)
              omega), Int.sub_mul]
            omega
          · rw [if_neg h6, if_pos (by
              have := Int.mul_le_mul_of_nonneg_right (c := P) (show y <= 63 by omega) (by omega)
              omega)]
        · rw [putS, if_pos hsx]; simp only [List.length_cons, List.length_nil]; omega
        · by_cases h7 : bits - 7 * k <= 7
          · have hd : ¬ (sx x / 2 ^ (bits - ((7 * k : Nat) : Int) - 1).toNat ≠ 0 /\ sx x / 2 ^ (bits - ((7 * k : Nat) : Int) - 1).toNat ≠ -1) := fun hh => c ⟨by omega, .inl hh⟩
            rw [show (bits - ((7 * k : Nat) : Int) - 1) = bits - 7 * (k : Int) - 1 by omega] at hd
            have hq : (0 : Int) < 2 ^ (bits - 7 * (k : Int) - 1).toNat := Int.pow_pos (by decide)
            generalize (2 : Int) ^ (bits - 7 * (k : Int) - 1).toNat = Q at *
            have h1 := Int.lt_ediv_add_one_mul_self (sx x) hq
            have h2 := Int.ediv_mul_le (sx x) (Int.ne_of_gt hq)
            by_cases e0 : sx x / Q = 0
            · rw [e0] at h1 h2; omega
            · have e1 : sx x / Q = -1 := Classical.byContradiction fun hn => hd ⟨e0, hn⟩
              rw [e1] at h1 h2; omega
          · have h3 : (2 : Int) ^ 6 <= 2 ^ (bits - 7 * (k : Int) - 1).toNat := by exact_mod_cast Nat.pow_le_pow_right (by decide) (by omega)
            rw [show (2 : Int) ^ 6 = 64 from rfl] at h3
            omega
      · rw [if_neg h128] at h ⊢
        have hbig : bits - 7 * k > 7 := by
          apply Classical.byContradiction; intro hh; exact c ⟨by omega, .inr (by omega)⟩
        have hv' := pow_lt_mul hv0 hv1 (low := x % 128) (m := 7) (by omega) (by show _ < (128 : Int); omega)
        rw [show 7 * k + 7 = 7 * (k + 1) by omega] at h hv' ⊢
        obtain ⟨m, h1, h2, h3, h4⟩ := sRd_short bits h64 t (k + 1) _ _ (fun y hy => hb y (List.mem_cons_of_mem _ hy)) hv'.1 hv'.2 (by omega) h
        have hpw : (2 : Int) ^ (bits - 7 * (k : Int) - 1).toNat = 128 * 2 ^ (bits - 7 * ((k + 1 : Nat) : Int) - 1).toNat := by
          rw [show (bits - 7 * (k : Int) - 1).toNat = (bits - 7 * ((k + 1 : Nat) : Int) - 1).toNat + 7 by omega, Int.pow_add, Int.mul_comm]; rfl
        refine ⟨x % 128 + 128 * m, ?_, ?_, ?_, ?_⟩
        · rw [h1, pow7s, Int.add_mul, Int.add_assoc]
          congr 2
          rw [<- Int.mul_assoc, Int.mul_comm m]
        · rw [putS]
          split
          · simp only [List.length_cons, List.length_nil]; omega
          · rw [show (x % 128 + 128 * m) / 128 = m by omega, List.length_cons]; omega
        · rw [hpw]; omega
        · rw [hpw]; omega
theorem sSpec_short {b : List Int} (hb : bytes b) {p bits : Int} (hbt : 1 <= bits /\ bits <= 64) (h0 : 0 <= p /\ p <= b.length) (h : (sSpec b p bits).2.2 = 0) : ((putS (sSpec b p bits).1).length : Int) <= (sSpec b p bits).2.1 - p /\ -2 ^ (bits - 1).toNat <= (sSpec b p bits).1 /\ (sSpec b p bits).1 < 2 ^ (bits - 1).toNat := by
  unfold sSpec at h ⊢
  rw [if_neg (by omega)] at h ⊢
  obtain ⟨m, h1, h2, h3, h4⟩ := sRd_short bits hbt.2 (b.drop p.toNat) 0 0 p (fun x hx => hb x (List.mem_of_mem_drop hx)) (Int.le_refl 0) (by decide) (by omega) h
  rw [Nat.mul_zero] at h1 h2
  have e : (sRd bits (b.drop p.toNat) 0 0 p).1 = m := by rw [h1]; simp
  rw [e]
  simp only [Int.natCast_zero, Int.mul_zero, Int.sub_zero] at h3 h4
  exact ⟨h2, h3, h4⟩
end Go.Proofs.Yteppkbaeacndiaa
namespace Go.Proofs.Yteppkbaeacndiaa
set_option maxRecDepth 20000
open Go Go.Abs
theorem i32_of {n : Int} (h : -2147483648 <= n /\ n < 2147483648) : i32 (n % 4294967296) = n := by
  unfold i32
  show (if (true && decide (n % 4294967296 % 4294967296 >= 2147483648)) = true then n % 4294967296 % 4294967296 - 4294967296 else n % 4294967296 % 4294967296) = n
  split
  · rename_i c; simp at c; omega
  · rename_i c; simp at c; omega
theorem i64_of {n : Int} (h : -9223372036854775808 <= n /\ n < 9223372036854775808) : i64 (n % 18446744073709551616) = n := by
  unfold i64
  show (if (true && decide (n % 18446744073709551616 % 18446744073709551616 >= 9223372036854775808)) = true then n % 18446744073709551616 % 18446744073709551616 - 18446744073709551616 else n % 18446744073709551616 % 18446744073709551616) = n
  split
  · rename_i c; simp at c; omega
  · rename_i c; simp at c; omega
theorem done_inv {i2 i : Ins} {q' q : Int} (h : doneS i2 q' = (i, q, 0)) : 0 <= q' /\ i = i2 /\ q = q' := by
  unfold doneS at h
  split at h
  · simp at h
  · simp only [Prod.mk.injEq, and_true] at h; exact ⟨by omega, h.1.symm, h.2.symm⟩
theorem u32_inv {b : List Int} (hb : bytes b) {p : Int} (h0 : 0 <= p /\ p <= b.length) (h : 0 <= (u32S b p).2) : numB (u32S b p).1 = true /\ ((uB (u32S b p).1).length : Int) <= (u32S b p).2 - p /\ p < (u32S b p).2 /\ (u32S b p).2 <= b.length := by
  have h1 := u32S_ok hb h0
  exact ⟨decide_eq_true h1.1, u32_short hb h0 h, by omega, by omega⟩
theorem numR2_inv {b : List Int} (hb : bytes b) {p : Int} (h1 : p <= b.length) (h : 0 <= (numR2 b p).2) : 0 <= p /\ numB (numR2 b p).1 = true /\ ((uB (numR2 b p).1).length : Int) <= (numR2 b p).2 - p /\ p < (numR2 b p).2 /\ (numR2 b p).2 <= b.length := by
  unfold numR2 at h ⊢
  by_cases c : p >= 0
  · rw [if_pos c] at h ⊢
    exact ⟨c, u32_inv hb ⟨c, h1⟩ h⟩
  · rw [if_neg c] at h; exact absurd h (by simp only; omega)
theorem tb_inv {b : List Int} (hb : bytes b) : ∀ (n : Nat) (p : Int) (acc : List Int), p <= b.length -> 0 <= (tbR b n p acc).2 -> 0 <= p /\ ∃ l, (tbR b n p acc).1 = acc ++ l /\ l.length = n /\ l.all numB = true /\ ((l.flatMap uB).length : Int) <= (tbR b n p acc).2 - p /\ (n : Int) <= (tbR b n p acc).2 - p /\ (tbR b n p acc).2 <= b.length
  | 0, p, acc, h1, h => by
    rw [tbR] at h ⊢
    exact ⟨h, [], by simp, rfl, rfl, by simp, by simp, h1⟩
  | n + 1, p, acc, h1, h => by
    rw [tbR] at h ⊢
    by_cases c : p >= 0
    · rw [if_pos c] at h ⊢
      have hu := u32S_ok hb (p := p) ⟨c, h1⟩
      obtain ⟨g0, l, g1, g2, g3, g4, g5, g6⟩ := tb_inv hb n _ _ (by omega) h
      have hi := u32_inv hb ⟨c, h1⟩ g0
      refine ⟨c, (u32S b p).1 :: l, by rw [g1]; simp, by simp [g2], by rw [List.all_cons, hi.1, g3]; rfl, ?_, ?_, g6⟩
      · rw [List.flatMap_cons, List.length_append]; omega
      · omega
    · rw [if_neg c] at h; exact absurd h (by simp only; omega)
structure Good (i : Ins) (form : Int) (n : Int) : Prop where
  ok : okIns i
  rest : restB i form = true
  one : (oneP i form).2 = true
  len : ((tailB i form).length : Int) <= n
theorem numB_iff {n : Int} (h : numB n = true) : 0 <= n /\ n < 4294967296 := of_decide_eq_true h
theorem okI {op a b lo hi : Int} {l : List Int} (h1 : 0 <= op /\ op <= 65023) (h2 : -64 <= a /\ a < 4294967296) (h3 : 0 <= b /\ b < 4294967296) (h4 : 0 <= lo /\ lo < 18446744073709551616) (h5 : 0 <= hi /\ hi < 18446744073709551616) (h6 : l.all numB = true) (h7 : l.length <= 100000000) : okIns ⟨op, a, b, lo, hi, l⟩ :=
  ⟨by simp only; omega, by simp only; omega, by simp only; omega, h4, h5, fun x hx => by have := numB_iff (List.all_eq_true.1 h6 x hx); omega, h7⟩
theorem fld_inv {b : List Int} (hb : bytes b) (hlen : b.length <= 100000000) {p : Int} (h0 : 0 <= p /\ p <= b.length) {op form : Int} (hop : 0 <= op /\ op <= 65023) (hf : 1 <= form /\ form <= 14) {i : Ins} {q : Int} (h : fldR b p ⟨op, 0, 0, 0, 0, []⟩ form = (i, q, 0)) : Good i form (q - p) := by
  have hu := fun hh => u32_inv hb h0 hh
  have huo := u32S_ok hb h0
  have hcs : form = 1 \/ form = 2 \/ form = 3 \/ form = 4 \/ form = 5 \/ form = 6 \/ form = 7 \/ form = 8 \/ form = 9 \/ form = 10 \/ form = 11 \/ form = 12 \/ form = 13 \/ form = 14 := by omega
  unfold fldR at h
  rcases hcs with rfl | rfl | rfl | rfl | rfl | rfl | rfl | rfl | rfl | rfl | rfl | rfl | rfl | rfl
  all_goals simp only [Int.reduceEq, ↓reduceIte, or_false, or_true, true_or, false_or, or_self] at h
  · simp only [Prod.mk.injEq, and_true] at h
    obtain ⟨rfl, rfl⟩ := h
    exact ⟨okI hop (by omega) (by omega) (by omega) (by omega) rfl (Nat.zero_le _), rfl, rfl, by show ((0 : Nat) : Int) <= _; omega⟩
  · simp only [Prod.mk.injEq] at h
    obtain ⟨rfl, rfl, he⟩ := h
    unfold kndS at he ⊢
    by_cases c1 : p < b.length /\ floatC (b.getD p.toNat 0)
    · rw [if_pos c1] at he; cases he
    rw [if_neg c1] at he ⊢
    by_cases c2 : p < b.length /\ kindC (b.getD p.toNat 0)
    · rw [if_pos c2] at he ⊢
      have hk := c2.2
      unfold kindC at hk
      have hs : b.getD p.toNat 0 - 128 = -64 \/ b.getD p.toNat 0 - 128 = -1 \/ b.getD p.toNat 0 - 128 = -2 \/ b.getD p.toNat 0 - 128 = -5 := by omega
      refine ⟨okI hop (by simp only; omega) (by omega) (by omega) (by omega) rfl (Nat.zero_le _), rfl, ?_, ?_⟩
      · unfold oneP; simp only [Int.reduceEq, ↓reduceIte]; rw [if_pos hs]
      · unfold tailB; simp only [Int.reduceEq, ↓reduceIte]; rw [if_pos hs]; simp only [List.length_cons, List.length_nil]; omega
    rw [if_neg c2] at he ⊢
    by_cases c3 : (sSpec b p 33).2.2 ≠ 0 \/ (sSpec b p 33).1 < 0
    · rw [if_pos c3] at he; cases he
    rw [if_neg c3] at he ⊢
    have hs := sSpec_short hb (bits := 33) ⟨by decide, by decide⟩ h0 (Classical.not_not.1 fun hh => c3 (.inl hh))
    have h2 : (2 : Int) ^ ((33 : Int) - 1).toNat = 4294967296 := by decide
    rw [h2] at hs
    have hn : 0 <= (sSpec b p 33).1 := by apply Classical.byContradiction; intro hh; exact c3 (.inr (by omega))
    refine ⟨okI hop (by simp only; omega) (by omega) (by omega) (by omega) rfl (Nat.zero_le _), rfl, ?_, ?_⟩
    · unfold oneP; simp only [Int.reduceEq, ↓reduceIte]; rw [if_neg (by omega)]; exact decide_eq_true ⟨hn, hs.2.2⟩
    · unfold tailB; simp only [Int.reduceEq, ↓reduceIte]; rw [if_neg (by omega)]; exact hs.1
  · obtain ⟨h1, rfl, rfl⟩ := done_inv h
    have hi := hu h1
    exact ⟨okI hop (by have := numB_iff hi.1; omega) (by omega) (by omega) (by omega) rfl (Nat.zero_le _), rfl, hi.1, hi.2.1⟩
  · obtain ⟨h1, rfl, rfl⟩ := done_inv h
    have htn : (tbR b (u32S b p).1.toNat (u32S b p).2 []).2 <= b.length := by
      apply Classical.byContradiction; intro hh
      have := (tb_inv hb (u32S b p).1.toNat (u32S b p).2 [] (by omega) (by omega)).2
      obtain ⟨_, _, _, _, _, _, h6⟩ := this
      omega
    obtain ⟨g0, g1, g2, g3, g4⟩ := numR2_inv hb htn h1
    obtain ⟨t0, l, t1, t2, t3, t4, t5, t6⟩ := tb_inv hb (u32S b p).1.toNat (u32S b p).2 [] (by omega) g0
    have hi := hu t0
    rw [List.nil_append] at t1
    rw [t1]
    have hl : (l.length : Int) = (u32S b p).1 := by rw [t2]; omega
    refine ⟨okI hop (by have := numB_iff g1; omega) (by omega) (by omega) (by omega) t3 (by omega), rfl, ?_, ?_⟩
    · unfold oneP; simp only [Int.reduceEq, ↓reduceIte, or_self]; rw [t3, g1]; rfl
    · unfold tailB; simp only [Int.reduceEq, ↓reduceIte, or_self, List.length_append]; rw [hl]; omega
  · obtain ⟨h1, rfl, rfl⟩ := done_inv h
    have hi := hu h1
    exact ⟨okI hop (by have := numB_iff hi.1; omega) (by omega) (by omega) (by omega) rfl (Nat.zero_le _), rfl, hi.1, hi.2.1⟩
  · obtain ⟨h1, rfl, rfl⟩ := done_inv h
    obtain ⟨g0, g1, g2, g3, g4⟩ := numR2_inv hb (by omega) h1
    have hi := hu g0
    refine ⟨okI hop (by have := numB_iff hi.1; omega) (by have := numB_iff g1; omega) (by omega) (by omega) rfl (Nat.zero_le _), rfl, ?_, ?_⟩
    · unfold oneP; simp only [Int.reduceEq, ↓reduceIte, or_self, or_true, true_or, or_false, false_or]; rw [hi.1, g1]; rfl
    · unfold tailB; simp only [Int.reduceEq, ↓reduceIte, or_self, or_true, true_or, or_false, false_or, List.length_append]; omega
  · obtain ⟨h1, rfl, rfl⟩ := done_inv h
    obtain ⟨g0, g1, g2, g3, g4⟩ := numR2_inv hb (by omega) h1
    have hi := hu g0
    refine ⟨okI hop (by have := numB_iff hi.1; omega) (by have := numB_iff g1; omega) (by omega) (by omega) rfl (Nat.zero_le _), rfl, ?_, ?_⟩
    · unfold oneP; simp only [Int.reduceEq, ↓reduceIte, or_self, or_true, true_or, or_false, false_or]; rw [hi.1, g1]; rfl
    · unfold tailB; simp only [Int.reduceEq, ↓reduceIte, or_self, or_true, true_or, or_false, false_or, List.length_append]; omega
  · by_cases d1 : (numR2 b (u32S b p).2).2 >= b.length
    · rw [if_pos d1] at h; simp at h
    rw [if_neg d1] at h
    by_cases d2 : (numR2 b (u32S b p).2).2 >= 0
    · rw [if_pos d2] at h
      obtain ⟨h1, rfl, rfl⟩ := done_inv h
      obtain ⟨g0, g1, g2, g3, g4⟩ := numR2_inv hb (by omega) d2
      have hi := hu g0
      have hx := hb _ (getD_mem (show (numR2 b (u32S b p).2).2.toNat < b.length by omega))
      have hx1 := hx.1
      have hx2 := hx.2
      refine ⟨okI hop (by have := numB_iff hi.1; omega) (by have := numB_iff g1; omega) (by omega) (by omega) rfl (Nat.zero_le _), rfl, ?_, ?_⟩
      · unfold oneP; simp only [Int.reduceEq, ↓reduceIte, or_self, or_true, true_or, or_false, false_or]; rw [hi.1, g1, decide_eq_true (by omega)]; rfl
      · unfold tailB; simp only [Int.reduceEq, ↓reduceIte, or_self, or_true, true_or, or_false, false_or, List.length_append, List.length_cons, List.length_nil]; omega
    · rw [if_neg d2] at h
      obtain ⟨h1, _, _⟩ := done_inv h
      exact absurd h1 (by omega)
  · obtain ⟨h1, rfl, rfl⟩ := done_inv h
    by_cases c : (sSpec b p 32).2.2 = 0
    · rw [if_neg (fun hh => hh c)] at h1 ⊢
      have hs := sSpec_short hb (bits := 32) ⟨by decide, by decide⟩ h0 c
      have h2 : (2 : Int) ^ ((32 : Int) - 1).toNat = 2147483648 := by decide
      rw [h2] at hs
      refine ⟨okI hop (by omega) (by omega) (by omega) (by omega) rfl (Nat.zero_le _), rfl, ?_, ?_⟩
      · unfold oneP constP; simp only [Int.reduceEq, ↓reduceIte, or_self]; exact decide_eq_true (by omega)
      · unfold tailB constP; simp only [Int.reduceEq, ↓reduceIte, or_self, List.nil_append]; rw [i32_of ⟨hs.2.1, hs.2.2⟩]; exact hs.1
    · rw [if_pos c] at h1; exact absurd h1 (by decide)
  · obtain ⟨h1, rfl, rfl⟩ := done_inv h
    by_cases c : (sSpec b p 64).2.2 = 0
    · rw [if_neg (fun hh => hh c)] at h1 ⊢
      have hs := sSpec_short hb (bits := 64) ⟨by decide, by decide⟩ h0 c
      have h2 : (2 : Int) ^ ((64 : Int) - 1).toNat = 9223372036854775808 := by decide
      rw [h2] at hs
      refine ⟨okI hop (by omega) (by omega) (by omega) (by omega) rfl (Nat.zero_le _), rfl, ?_, ?_⟩
      · unfold oneP constP; simp only [Int.reduceEq, ↓reduceIte, or_self]
      · unfold tailB constP; simp only [Int.reduceEq, ↓reduceIte, or_self, List.nil_append]; rw [i64_of ⟨hs.2.1, hs.2.2⟩]; exact hs.1
    · rw [if_pos c] at h1; exact absurd h1 (by decide)
  · unfold bytR at h
    simp only [Int.reduceEq, ↓reduceIte, or_false, or_true, true_or, false_or] at h
    by_cases c : (b.length : Int) - p < 16
    · rw [if_pos c] at h; simp at h
    · rw [if_neg c] at h
      simp only [Prod.mk.injEq, and_true] at h
      obtain ⟨rfl, rfl⟩ := h
      have hwb : bytes ((b.drop p.toNat).take 16) := bytes_take (bytes_drop hb _) 16
      have hl1 := le_bound (bytes_take hwb 8)
      have hl2 := le_bound (bytes_drop hwb 8)
      have e1 : ((List.take 16 (List.drop p.toNat b)).take 8).length = 8 := by simp only [List.length_take, List.length_drop]; omega
      have e2 : ((List.take 16 (List.drop p.toNat b)).drop 8).length = 8 := by simp only [List.length_take, List.length_drop]; omega
      rw [e1] at hl1
      rw [e2] at hl2
      have e3 : (2 : Int) ^ (8 * 8) = 18446744073709551616 := by decide
      rw [e3] at hl1 hl2
      refine ⟨okI hop (by omega) (by omega) hl1 hl2 rfl (Nat.zero_le _), rfl, ?_, ?_⟩
      · unfold oneP constP; simp only [Int.reduceEq, ↓reduceIte, or_self]
      · unfold tailB constP; simp only [Int.reduceEq, ↓reduceIte, or_self, List.nil_append]; unfold join; rw [List.length_append, toB_len, toB_len]; omega
  · unfold bytR at h
    simp only [Int.reduceEq, ↓reduceIte, or_false, or_true, true_or, false_or] at h
    by_cases c : (b.length : Int) - p < 16
    · rw [if_pos c] at h; simp at h
    · rw [if_neg c] at h
      simp only [Prod.mk.injEq, and_true] at h
      obtain ⟨rfl, rfl⟩ := h
      have hwb : bytes ((b.drop p.toNat).take 16) := bytes_take (bytes_drop hb _) 16
      have hl1 := le_bound (bytes_take hwb 8)
      have hl2 := le_bound (bytes_drop hwb 8)
      have e1 : ((List.take 16 (List.drop p.toNat b)).take 8).length = 8 := by simp only [List.length_take, List.length_drop]; omega
      have e2 : ((List.take 16 (List.drop p.toNat b)).drop 8).length = 8 := by simp only [List.length_take, List.length_drop]; omega
      rw [e1] at hl1
      rw [e2] at hl2
      have e3 : (2 : Int) ^ (8 * 8) = 18446744073709551616 := by decide
      rw [e3] at hl1 hl2
      refine ⟨okI hop (by omega) (by omega) hl1 hl2 rfl (Nat.zero_le _), rfl, ?_, ?_⟩
      · unfold oneP constP; simp only [Int.reduceEq, ↓reduceIte, or_self]
      · unfold tailB constP; simp only [Int.reduceEq, ↓reduceIte, or_self, List.nil_append]; unfold join; rw [List.length_append, toB_len, toB_len]; omega
  · unfold bytR at h
    simp only [Int.reduceEq, ↓reduceIte, or_self, false_and, or_false] at h
    by_cases c : p >= b.length
    · rw [if_pos c] at h; simp at h
    · rw [if_neg c] at h
      simp only [Prod.mk.injEq, and_true] at h
      obtain ⟨rfl, rfl⟩ := h
      have hx := hb _ (getD_mem (show p.toNat < b.length by omega))
      have hx1 := hx.1
      have hx2 := hx.2
      refine ⟨okI hop (by omega) (by omega) (by omega) (by omega) rfl (Nat.zero_le _), rfl, ?_, ?_⟩
      · unfold oneP constP; simp only [Int.reduceEq, ↓reduceIte, or_self]; exact decide_eq_true (by omega)
      · unfold tailB constP; simp only [Int.reduceEq, ↓reduceIte, or_self, List.nil_append, List.length_cons, List.length_nil]; omega
  · unfold bytR at h
    simp only [Int.reduceEq, ↓reduceIte, or_self, true_and] at h
    by_cases c : p >= b.length \/ b.getD p.toNat 0 ≠ 0
    · rw [if_pos c] at h; simp at h
    · rw [if_neg c] at h
      simp only [Prod.mk.injEq, and_true] at h
      obtain ⟨rfl, rfl⟩ := h
      refine ⟨okI hop (by omega) (by omega) (by omega) (by omega) rfl (Nat.zero_le _), rfl, ?_, ?_⟩
      · unfold oneP constP; simp only [Int.reduceEq, ↓reduceIte, or_self]
      · unfold tailB constP; simp only [Int.reduceEq, ↓reduceIte, or_self, List.nil_append, List.length_cons, List.length_nil]; omega
end Go.Proofs.Yteppkbaeacndiaa
namespace Go.Proofs.Yteppkbaeacndiaa
set_option maxRecDepth 20000
open Go Go.Abs
theorem opk_inv {op q : Int} (h : (opkS op q).2.2 = 0) : (ofS op).2 = true /\ opkS op q = (op, q, 0) := by
  unfold opkS at h ⊢
  by_cases c : flS op = true
  · rw [if_pos c] at h; exact absurd h (by simp only; omega)
  · rw [if_neg c] at h ⊢
    by_cases c2 : (ofS op).2 = true
    · exact ⟨c2, if_pos c2⟩
    · rw [if_neg c2] at h; exact absurd h (by simp only; omega)
theorem opc_inv {b : List Int} (hb : bytes b) {p : Int} (h0 : 0 <= p /\ p <= b.length) (h : (opcS b p).2.2 = 0) : (ofS (opcS b p).1).2 = true /\ ((opB (opcS b p).1).length : Int) <= (opcS b p).2.1 - p := by
  unfold opcS at h ⊢
  by_cases c0 : p >= b.length
  · rw [if_pos c0] at h; exact absurd h (by simp only; omega)
  · rw [if_neg c0] at h ⊢
    by_cases c1 : b.getD p.toNat 0 = 252 \/ b.getD p.toNat 0 = 253
    · rw [if_pos c1] at h ⊢
      by_cases c2 : (u32S b (p + 1)).2 < 0
      · rw [if_pos c2] at h; exact absurd h (by simp only; omega)
      · rw [if_neg c2] at h ⊢
        by_cases c3 : b.getD p.toNat 0 = 252 /\ (u32S b (p + 1)).1 <= 7
        · rw [if_pos c3] at h; exact absurd h (by simp only; omega)
        · rw [if_neg c3] at h ⊢
          by_cases c4 : b.getD p.toNat 0 = 252 \/ (u32S b (p + 1)).1 > 255
          · rw [if_pos c4] at h; exact absurd h (by simp only; omega)
          · rw [if_neg c4] at h ⊢
            obtain ⟨h1, h2⟩ := opk_inv h
            rw [h2]
            obtain ⟨g1, g2, g3, g4⟩ := u32_inv hb (p := p + 1) ⟨by omega, by omega⟩ (by omega)
            have g5 := numB_iff g1
            refine ⟨h1, ?_⟩
            simp only
            unfold opB
            rw [if_pos (by omega), show 64768 + (u32S b (p + 1)).1 - 64768 = (u32S b (p + 1)).1 by omega, List.length_cons]
            omega
    · rw [if_neg c1] at h ⊢
      obtain ⟨h1, h2⟩ := opk_inv h
      rw [h2]
      refine ⟨h1, ?_⟩
      have hx : b.getD p.toNat 0 < 256 := by
        have hlt : p.toNat < b.length := by omega
        rw [List.getD_eq_getElem?_getD, List.getElem?_eq_getElem hlt]
        have := (hb _ (List.getElem_mem hlt)).2
        simp only [Option.getD_some]; omega
      simp only
      unfold opB
      rw [if_neg (by omega), List.length_singleton]
      omega
theorem insP_of {i : Ins} (h1 : (ofS i.op).2 = true) (h2 : restB i (ofS i.op).1.1 = true) (h3 : (oneP i (ofS i.op).1.1).2 = true) : (insP i).2 = true /\ (insP i).1 = opB i.op ++ tailB i (ofS i.op).1.1 := by
  unfold insP
  rw [if_pos ⟨h1, h2⟩]
  exact ⟨h3, oneP_eq i _⟩
structure Got (b : List Int) (k : Int) (o : List Int) (l code : List Ins) (to : Int) (t : List Ins) : Prop where
  eq : code = l ++ t
  closed : closedL o t = true
  ok : ∀ i ∈ t, okIns i /\ (insP i).2 = true
  len : ((bytP t).length : Int) <= to - k
  le : to <= b.length
  last : ∃ u i, t = u ++ [i] /\ i.op = 11
theorem readL_inv {b : List Int} (hb : bytes b) (hlen : b.length <= 100000000) {code : List Ins} {to : Int} : ∀ (n : Nat) (k : Int) (o j : List Int) (l : List Ins), 0 <= k /\ k <= b.length ->
    readL b n ⟨k, o, j, 0⟩ l = (code, to, 0) -> ∃ t, Got b k o l code to t
  | 0, _, _, _, _, _, h => by rw [readL] at h; simp at h
  | n + 1, k, o, j, l, hk, h => by
    have hA : ∀ {e : Int}, e ≠ 0 -> (code, to, (0 : Int)) ≠ ([], 0, e) := fun he h => by
      simp only [Prod.mk.injEq] at h; exact he h.2.2.symm
    have ho := opc_inv hb (p := k) hk
    rcases step_cases hb ⟨by simp only; omega, by simp only; omega⟩ h with ⟨h1, h2⟩ | ⟨h1, h2, h3, h4⟩
    · exact absurd h2 (hA h1)
    · obtain ⟨ho1, ho2⟩ := ho h1
      have hf := (ofS_yes ho1).2
      rcases h4 _ rfl with ⟨h5, h6⟩ | ⟨h5, h6, h7⟩
      · exact absurd h6 (hA h5)
      · have hop := fldR_op (b := b) (p := (opcS b k).2.1) (form := (ofS (opcS b k).1).1.1) (i := ⟨(opcS b k).1, 0, 0, 0, 0, []⟩)
        have hfi := fun i q (e : _ = (i, q, 0)) => fld_inv hb hlen (p := (opcS b k).2.1) ⟨by omega, by omega⟩ (op := (opcS b k).1) (form := (ofS (opcS b k).1).1.1) h3 hf (i := i) (q := q) e
        generalize fldR b (opcS b k).2.1 ⟨(opcS b k).1, 0, 0, 0, 0, []⟩ (ofS (opcS b k).1).1.1 = f at *
        obtain ⟨i, p2, e2⟩ := f
        simp only at h5 h6 h7 hop
        subst h5
        generalize opcS b k = q at *
        obtain ⟨op, p1, e1⟩ := q
        simp only at h1 h2 h3 ho1 ho2 hf h6 h7 hfi hop
        have hg := hfi i p2 rfl
        have hio : i.op = op := hop trivial
        rw [<- hio] at hg ho1
        have hy := insP_of ho1 hg.rest hg.one
        have hl : ((insP i).1.length : Int) <= p2 - k := by
          rw [hy.2, List.length_append]
          have := hg.len
          rw [hio] at this ⊢
          omega
        have hgo : ∀ o' j', readL b n ⟨p2, o', j', 0⟩ (l ++ [i]) = (code, to, 0) -> (∀ t, closedL o' t = true -> closedL o (i :: t) = true) -> ∃ t, Got b k o l code to t := fun o' j' hr hc => by
          obtain ⟨t, g1, g2, g3, g4, g5, u, x, g6, g7⟩ := readL_inv hb hlen n p2 o' j' (l ++ [i]) ⟨by omega, by omega⟩ hr
          refine ⟨i :: t, by rw [g1, List.append_assoc]; rfl, hc t g2, ?_, ?_, g5, i :: u, x, by rw [g6]; rfl, g7⟩
          · intro y hm
            rcases List.mem_cons.1 hm with rfl | hm
            · exact ⟨hg.ok, hy.1⟩
            · exact g3 y hm
          · unfold bytP at g4 ⊢
            rw [List.flatMap_cons, List.length_append]
            omega
        unfold Rnd at h7
        rcases h7 with ⟨r1, r2, r3⟩ | ⟨r1, r2, r3⟩ | ⟨r1, r2, r3⟩ | ⟨r1, ⟨r2, r4⟩, r3⟩ | ⟨r1, ⟨r2, r4⟩, r3⟩ | ⟨r1, r2, r3⟩ | ⟨r1, r2, r3⟩ | ⟨r1, r3⟩
        · exact absurd r3 (hA (by decide))
        · exact hgo _ _ r3 fun t ht => by rw [closedL, hio, if_pos r1, if_neg r2]; exact ht
        · exact absurd r3 (hA (by decide))
        · exact absurd r3 (hA (by decide))
        · exact hgo _ _ r3 fun t ht => by rw [closedL, hio, if_neg (by omega), if_pos r1, if_neg (fun h => h.elim r2 (fun h => h r4))]; exact ht
        · simp only [Prod.mk.injEq, and_true] at r3
          obtain ⟨r3, rfl⟩ := r3
          refine ⟨[i], r3, ?_, ?_, ?_, by omega, [], i, rfl, by rw [hio, r1]⟩
          · rw [closedL, hio, if_neg (by omega), if_neg (by omega), if_pos r1, if_pos r2]; rfl
          · intro y hm
            rw [List.mem_singleton] at hm
            subst hm
            exact ⟨hg.ok, hy.1⟩
          · unfold bytP
            rw [List.flatMap_cons, List.flatMap_nil, List.append_nil]
            omega
        · exact hgo _ _ r3 fun t ht => by rw [closedL, hio, if_neg (by omega), if_neg (by omega), if_pos r1, if_neg r2]; exact ht
        · exact hgo _ _ r3 fun t ht => by rw [closedL, hio, if_neg (by omega), if_neg (by omega), if_neg (by omega)]; exact ht
theorem readS_inv {b : List Int} (hb : bytes b) (hlen : b.length <= 100000000) {p : Int} {code : List Ins} {to : Int} (h : readS b p = (code, to, 0)) :
    0 <= p /\ Got b p [] [] code to code := by
  unfold readS at h
  split at h
  · simp at h
  · rename_i c
    have h0 : 0 <= p /\ p <= b.length := by omega
    obtain ⟨t, ht⟩ := readL_inv hb hlen _ _ _ _ _ h0 h
    have := ht.eq
    rw [List.nil_append] at this
    subst this
    exact ⟨h0.1, ht⟩
end Go.Proofs.Yteppkbaeacndiaa
