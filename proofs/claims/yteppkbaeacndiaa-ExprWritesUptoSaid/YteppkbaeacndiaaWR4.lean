/- put, tables. -/
import Derived.Test.YteppkbaeacndiaaDP
import Derived.Test.YteppkbaeacndiaaDB
import Derived.Test.YteppkbaeacndiaaGCB
import Derived.Test.YteppkbaeacndiaaGAT2
set_option linter.unusedSimpArgs false
set_option linter.unusedVariables false
namespace Go.Proofs.Yteppkbaeacndiaa
set_option maxRecDepth 20000
open Go Go.Abs Nat
attribute [local irreducible] AW AWL AC FW CW CWr IntKind.wrap
def S4w (i : Ins) (ok : Bool) (o : List Int) (k : Nat) : St := { n := 185, slots := [(1, .ptr 1 0), (5, .bool ok), (6, .ref 6 0 o.length 1), (7, .view (uB i.a).length 1 (nums .u8 (uB i.a))), (101, .view i.l.length 1 (nums .i64 i.l)), (102, .int .i64 i.l.length), (103, .int .i64 (k : Int))], mem := [(1, ⟨false, [.int .i64 i.op, .int .i64 i.a, .int .i64 i.b, .int .u64 i.lo, .int .u64 i.hi, .view i.l.length 1 (nums .i64 i.l)]⟩), (6, ⟨true, nums .u8 o⟩)] }
theorem uBs_snoc (o : List Int) (L : List Int) {k : Nat} (h : k < L.length) : (o ++ uB (L.getD k 0)) ++ (L.drop (k + 1)).flatMap uB = o ++ (L.drop k).flatMap uB := by
  have hdr : L.drop k = L.getD k 0 :: L.drop (k + 1) := by
    rw [List.drop_eq_getElem_cons h, List.getD_eq_getElem?_getD, List.getElem?_eq_getElem h]; rfl
  rw [hdr, List.flatMap_cons, List.append_assoc]
theorem numBs_snoc (ok : Bool) (L : List Int) {k : Nat} (h : k < L.length) : ((ok && numB (L.getD k 0)) && (L.drop (k + 1)).all numB) = (ok && (L.drop k).all numB) := by
  have hdr : L.drop k = L.getD k 0 :: L.drop (k + 1) := by
    rw [List.drop_eq_getElem_cons h, List.getD_eq_getElem?_getD, List.getElem?_eq_getElem h]; rfl
  rw [hdr, List.all_cons, Bool.and_assoc]
theorem MWR4.NM : type_of% @NSX /\ type_of% @St.keepS.eq_1 /\ type_of% @TY /\ type_of% @SLS /\ type_of% @nums_length /\ type_of% @infoL.eq_1 /\ type_of% @T8w.eq_1 /\ type_of% @S4w.eq_1 :=
  ⟨NSX, St.keepS.eq_1, @TY, @SLS, @nums_length, @infoL.eq_1, @T8w.eq_1, @S4w.eq_1⟩
open MWR4
theorem K1WR4.kp {P : Program} {c : Code} {Q : Exit -> St -> Prop} {st : St} (h : AW P c Q (st.keepS [0, 1, 2, 3, 4, 5, 6, 7, 9, 46, 101, 102, 103])) : AW P c Q st := AW.keepS _ h
theorem K1WR4.cl {p : Prop} (h : p := by
  first
    | refine AWL.frzG rfl rfl rfl ?_
    | refine AWL.cC (f := 28) cb28 rfl rfl rfl rfl rfl rfl (hof) ?_
    | refine AWL.cC (f := 41) cb41 rfl rfl rfl rfl rfl rfl (hre) ?_
    | refine AWL.cC (f := 42) cb42 rfl rfl rfl rfl rfl rfl (hpu) ?_
    | refine AWL.cC (f := 42) cb42 rfl rfl rfl rfl rfl rfl (hpb) ?_
    | refine AWL.cC (f := 42) cb42 rfl rfl rfl rfl rfl rfl (hpl) ?_
    | refine AWL.cC (f := 44) cb44 rfl rfl rfl rfl rfl rfl (hna) ?_
    | refine AWL.cC (f := 44) cb44 rfl rfl rfl rfl rfl rfl (hnb) ?_
  all_goals (apply_rules (newGoals := .nonDependentOnly) only [dep])
  all_goals constructor) : p := h
theorem K1WR4.sd {p : Prop} (h : p := by first | exact sd1eb496) : p := h
open K1WR4 in
set_option maxHeartbeats 12800000 in
theorem put4 (i : Ins) (hi : okIns i) (hok : (ofS i.op).2 = true /\ restB i (ofS i.op).1.1 = true) (h4 : (ofS i.op).1.1 = 4) :
    AC Try.prog 22 [.agg (insC i)] (fun v m => PutR (insP i) v m) := by
  obtain ⟨A, hA⟩ : ∃ A, insP i = A := ⟨_, rfl⟩
  rw [hA]
  obtain ⟨z, hz⟩ : ∃ z, ofS i.op = z := ⟨_, rfl⟩
  have hof := of_look i.op
  have hre := rest_ok i z.1.1 hi.n
  have hpu := pu_n (i.op - 64768)
  have hpb := pu_n i.a
  have hps : True := trivial
  have hna : True := trivial
  have hpl : True := trivial
  have hnb : True := trivial
  have f1 : True := trivial
  have f2 : True := trivial
  have f3 : True := trivial
  unfold insP at hA
  have hop1 := hi.op
  have hol := opB_len i.op
  have hal := uB_len i.a
  have e1 : IntKind.u8.wrap i.op = i.op % 256 := wrap_unsigned (k := .u8) rfl _
  have e3 : IntKind.u64.wrap i.a = i.a % 18446744073709551616 := wrap_unsigned (k := .u64) rfl _
  have e4 : IntKind.u64.wrap i.b = i.b % 18446744073709551616 := wrap_unsigned (k := .u64) rfl _
  rw [hz] at hof hA h4 hok
  unfold PutR
  obtain ⟨B, hB⟩ : ∃ B, restB i z.1.1 = B := ⟨_, rfl⟩
  rw [hB] at hre hA hok
  obtain ⟨z1, z2⟩ := z
  simp only at hof hre hA h4 hok
  unfold insC at hre ⊢
  refine AC.enter Try.func22 rfl (Nat.le_of_ble_eq_true rfl) ?_
  simp only [Try.f22]
  rw [if_pos hok] at hA
  obtain ⟨rfl, rfl⟩ := hok
  clear hz
  have nx : type_of% @e1 /\ True := ⟨@e1, trivial⟩
  refine' st708991
  rename_i Qm hQm hPm
  have hrest : ∀ s : St, s.keep [1, 4, 5, 6] [1, 4, 6] = T8w i z1 (opB i.op) -> Qm .normal s := by
    clear hof hre hpu
    intro s hs
    refine QEq.mp hQm ?_
    simp only [thenQ, Go.Abs.blockQ, ↓reduceIte, Nat.reduceEqDiff]
    refine AW.keep [1, 4, 5, 6] [1, 4, 6] ?_
    rw [hs]
    unfold oneP at hA
    generalize opB i.op = o at hol hA
    have hlo : List.take o.length o = o := List.take_length
    have hna := xnum_ok i.a
    have hnb := xnum_ok i.b
    have hps := ps_1 i.a hi.a
    have hpl := putS_len 9 i.a (by have := hi.a; simp only [Nat.reduceMul, Int.reducePow, Int.reduceMul]; omega)
    have hpu := pu_n i.b
    have hbl := uB_len i.b
    have sp1 : numB i.a = true \/ numB i.a = false := by cases numB i.a <;> simp
    have sp2 : numB i.b = true \/ numB i.b = false := by cases numB i.b <;> simp
    have e10 : IntKind.u8.wrap i.lo = i.lo % 256 := wrap_unsigned (k := .u8) rfl _
    have hl2 : List.take (o.length + (uB i.a).length + (uB i.b).length) (o ++ uB i.a ++ uB i.b) = o ++ uB i.a ++ uB i.b := by rw [<- List.length_append, <- List.length_append, List.take_length]
    rw [if_neg (by omega), if_neg (by omega), if_neg (by omega), if_pos h4] at hA
    have hnl := hi.n
    have hll := hi.l
    have hpl := pu_n (i.l.length : Int)
    have e11 : IntKind.u64.wrap (i.l.length : Int) = (i.l.length : Int) % 18446744073709551616 := wrap_unsigned (k := .u64) rfl _
    have hbl := uB_len (i.l.length : Int)
    generalize hO : o ++ uB (i.l.length : Int) ++ i.l.flatMap uB = O at hA
    have nx : type_of% @h4 /\ type_of% @e3 /\ type_of% @e11 /\ True := ⟨@h4, ⟨@e3, ⟨@e11, trivial⟩⟩⟩
    refine' st1a0eb4
    refine AW.loop [1, 5, 6, 7, 101, 102, 103] [1, 6] (fun m st => ∃ (k : Nat) (p : List Int) (ok : Bool), st = S4w i ok p k /\ k <= i.l.length /\ p.length <= 100 + 10 * k /\ p ++ (i.l.drop k).flatMap uB = O /\ (ok && (i.l.drop k).all numB) = i.l.all numB /\ m = i.l.length - k) ?_ ?_
    · exact ⟨_, 0, o ++ uB (i.l.length : Int), true, by rw [S4w, List.length_append]; rfl, Nat.zero_le _, by rw [List.length_append]; omega, hO, rfl, rfl⟩
    rintro m st ⟨k, p, ok, rfl, hk, hpk, hpO, hok, rfl⟩
    clear hpl hlo
    by_cases hkl : k < i.l.length
    · have e7 : IntKind.i64.wrap ((k : Int) + 1) = ((k + 1 : Nat) : Int) := wrap64_id _ (by omega) (by omega)
      have hlo : List.take p.length p = p := List.take_length
      have e12 : IntKind.u64.wrap (i.l.getD k 0) = i.l.getD k 0 % 18446744073709551616 := wrap_unsigned (k := .u64) rfl _
      have hpl := pu_n (i.l.getD k 0)
      have hna := xnum_ok (i.l.getD k 0)
      have hul := uB_len (i.l.getD k 0)
      have hpO := (uBs_snoc p i.l hkl).trans hpO
      have hok := (numBs_snoc ok i.l hkl).trans hok
      rcases ok with _ | _
      all_goals
        have nx : type_of% @e7 /\ type_of% @e12 /\ type_of% @hlo /\ True := ⟨@e7, ⟨@e12, ⟨@hlo, trivial⟩⟩⟩
        refine' st1a0eb4
        all_goals first
          | exact ⟨i.l.length - (k + 1), by omega, k + 1, p ++ uB (i.l.getD k 0), false, by rw [S4w, List.length_append]; rfl, by omega, by rw [List.length_append]; omega, hpO, hok, rfl⟩
          | exact ⟨i.l.length - (k + 1), by omega, k + 1, p ++ uB (i.l.getD k 0), numB (i.l.getD k 0), by rw [S4w, List.length_append]; rfl, by omega, by rw [List.length_append]; omega, hpO, hok, rfl⟩
          | trace_state
    · rw [List.drop_of_length_le (by omega)] at hpO hok
      simp only [List.flatMap_nil, List.append_nil, List.all_nil, Bool.and_true] at hpO hok
      subst hpO
      rw [<- hok] at hA
      subst hA
      have hlo : List.take p.length p = p := List.take_length
      rcases ok with _ | _
      all_goals
        have nx : type_of% @hlo /\ True := ⟨@hlo, trivial⟩
        refine' st1a0eb4
        all_goals first
          | (refine .inr ⟨2, ?_, rfl⟩; rw [List.length_append]; done)
          | (refine .inr ⟨2, ?_, rfl⟩; simp only [List.length_append, Bool.true_and, Bool.false_and]; done)
          | trace_state
  clear hQm
  by_cases hbig : i.op >= 64768
  · have e2 : IntKind.u64.wrap (i.op - 64768) = (i.op - 64768) % 18446744073709551616 := wrap_unsigned (k := .u64) rfl _
    have e5 : IntKind.i64.wrap (i.op - 64768) = i.op - 64768 := wrap64_id _ (by omega) (by omega)
    have hob : opB i.op = 253 :: uB (i.op - 64768) := if_pos hbig
    have hou := uB_len (i.op - 64768)
    have nx : type_of% @e2 /\ type_of% @e5 /\ True := ⟨@e2, ⟨@e5, trivial⟩⟩
    refine' st1a0eb4
    all_goals first
      | exact hrest _ (by rw [hob]; rfl)
      | exact hrest _ (by rw [hob, T8w, show (253 :: uB (i.op - 64768)).length = 1 + (uB (i.op - 64768)).length by simp only [List.length_cons]; omega]; rfl)
      | trace_state
  · have hob : opB i.op = [i.op % 256] := if_neg hbig
    have nx : True := trivial
    refine' st1a0eb4
    all_goals first
      | exact hrest _ (by rw [hob]; rfl)
      | trace_state
end Go.Proofs.Yteppkbaeacndiaa
