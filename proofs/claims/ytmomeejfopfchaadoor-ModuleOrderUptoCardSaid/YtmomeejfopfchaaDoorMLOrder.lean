/- ModuleOrder. -/
import Derived.Test.YtmomeejfopfchaaDoorDP
import Derived.Test.YtmomeejfopfchaaDoorGTabs
import Derived.Test.YtmomeejfopfchaaDoorGTy
import Derived.Test.YtmomeejfopfchaaDoorCB
import Derived.Test.YtmomeejfopfchaaDoorMLCuts
set_option linter.unusedSimpArgs false
set_option linter.unusedVariables false
namespace Go.Proofs.YtmomeejfopfchaaDoor
set_option maxRecDepth 20000
open Go Go.Abs Nat
attribute [local irreducible] AW AWL AC FW CW CWr IntKind.wrap
theorem run_mem {b : List Int} (hb : bytes b) {last : Int} {m : Mod} {p l2 : Int} {m2 : Mod} {q : Int} {ps : List Int} (hr : Run b last m p ps l2 m2 q) (hp : 0 <= p /\ p <= b.length) {i : Nat} (hi : i < ps.length) : p <= ps[i] /\ ps[i] <= b.length := by
  obtain ⟨_, _, _, _, h1, _, _⟩ := run_split hr i hi
  exact ⟨(run_bnd h1 hb hp).1, (run_bnd h1 hb hp).2⟩
theorem run_step {b : List Int} (hb : bytes b) {last : Int} {m : Mod} {p l2 : Int} {m2 : Mod} {q : Int} {ps : List Int} (hr : Run b last m p ps l2 m2 q) (hp : 0 <= p /\ p <= b.length) {i : Nat} (hi : i + 1 < ps.length) : ps[i] < ps[i + 1] := by
  obtain ⟨_, _, _, ps2, h1, h2, h3⟩ := run_split hr i (by omega)
  have h0 := run_bnd h1 hb hp
  cases h2 with
  | nil =>
    have := congrArg List.length h3
    simp at this
    omega
  | cons hs h2 =>
    rename_i l1 m1 ta ps3
    obtain ⟨l, rfl⟩ := run_head h2
    have h4 := sec1_lt hb (by omega) hs
    have : (ps.drop i)[1]? = some ta := by rw [<- h3]; rfl
    rw [List.getElem?_drop, List.getElem?_eq_getElem (by omega)] at this
    have := Option.some.inj this
    omega
theorem MMLOrder.NM : type_of% @NSX /\ type_of% @St.keepS.eq_1 /\ type_of% @TY /\ type_of% @SLS /\ type_of% @nums_length /\ type_of% @modC.eq_1 /\ type_of% @modZ.eq_1 :=
  ⟨NSX, St.keepS.eq_1, @TY, @SLS, @nums_length, @modC.eq_1, @modZ.eq_1⟩
open MMLOrder
theorem K1MLOrder.kp {P : Program} {c : Code} {Q : Exit -> St -> Prop} {st : St} (h : AW P c Q (st.keepS [0, 1, 2, 6, 8, 9, 10, 11, 12, 13, 14, 15, 16, 17])) : AW P c Q st := AW.keepS _ h
theorem K1MLOrder.cl {p : Prop} (h : p := by
  first
    | refine AWL.frzG rfl rfl rfl ?_
    | refine AWL.cC (f := 8) cb8 rfl rfl rfl rfl rfl rfl (awake_ok) ?_
    | refine AWL.cC (f := 9) cb9 rfl rfl rfl rfl rfl rfl (hd1) ?_
    | refine AWL.cC (f := 9) cb9 rfl rfl rfl rfl rfl rfl (hd2) ?_
    | refine AWL.cC (f := 9) cb9 rfl rfl rfl rfl rfl rfl (hd3) ?_
    | refine AWL.cC (f := 10) cb10 rfl rfl rfl rfl rfl rfl (hs0) ?_
    | refine AWL.cC (f := 11) cb11 rfl rfl rfl rfl rfl rfl (hsec) ?_
  all_goals (apply_rules (newGoals := .nonDependentOnly) only [dep])
  all_goals constructor) : p := h
theorem K1MLOrder.sd {p : Prop} (h : p := by first | exact sd1eb496 | exact sd8f4301) : p := h
open K1MLOrder in
set_option maxHeartbeats 6400000 in
theorem morder_ok (b : List Int) (hb : bytes b) (hl : b.length <= 1048576) (first second : Int) : AC Tryd.prog 5 [.view b.length 1 (nums .u8 b), .int .i64 first, .int .i64 second] (fun r m => r = .bool true /\ m = []) := by
  have hd1 := dec_ok b hb
  have hsec := sects_ok b hb (by omega)
  obtain ⟨L, hL⟩ : ∃ L, 8 :: secG b b.length 8 = L := ⟨_, rfl⟩
  rw [hL] at hsec
  have hs0 := same_zero
  unfold modC mod0 modZ at hs0
  have hd2 : True := trivial
  have hd3 : True := trivial
  have hLn : 1 <= L.length /\ L.length <= b.length + 1 := by rw [<- hL]; have := secG_len b b.length 8; simp only [List.length_cons]; omega
  by_cases hbad : (decS b).2 ≠ 0 \/ b.length > 8000 \/ L.length < 2
  · generalize decS b = z at hd1 hbad
    obtain ⟨md, e⟩ := z
    simp only at hd1 hbad
    by_cases he : e ≠ 0
    · have d1 : (e == 0) = false := beq_eq_false_iff_ne.2 he
      refine AC.enter Tryd.func5 rfl (Nat.le_of_ble_eq_true rfl) ?_
      simp only [Tryd.f5]
      have nx : type_of% @d1 /\ True := ⟨@d1, trivial⟩
      refine' std2f07a
      all_goals first | exact ⟨trivial, trivial⟩ | exact ⟨rfl, trivial⟩ | exact ⟨rfl, rfl⟩ | exact ⟨trivial, rfl⟩ | (exfalso; omega) | trace_state
    obtain rfl : e = 0 := Classical.not_not.1 he
    by_cases h8 : b.length > 8000
    · have d2 : decide ((b.length : Int) > 8000) = true := decide_eq_true (by omega)
      refine AC.enter Tryd.func5 rfl (Nat.le_of_ble_eq_true rfl) ?_
      simp only [Tryd.f5]
      have nx : type_of% @d2 /\ True := ⟨@d2, trivial⟩
      refine' std2f07a
      all_goals first | exact ⟨trivial, trivial⟩ | exact ⟨rfl, trivial⟩ | exact ⟨rfl, rfl⟩ | exact ⟨trivial, rfl⟩ | (exfalso; omega) | trace_state
    · have d2 : decide ((b.length : Int) > 8000) = false := decide_eq_false (by omega)
      have d3 : decide ((L.length : Int) < 2) = true := decide_eq_true (by omega)
      refine AC.enter Tryd.func5 rfl (Nat.le_of_ble_eq_true rfl) ?_
      simp only [Tryd.f5]
      have nx : type_of% @d2 /\ type_of% @d3 /\ True := ⟨@d2, ⟨@d3, trivial⟩⟩
      refine' std2f07a
      all_goals first | exact ⟨trivial, trivial⟩ | exact ⟨rfl, trivial⟩ | exact ⟨rfl, rfl⟩ | exact ⟨trivial, rfl⟩ | (exfalso; omega) | trace_state
  have he : (decS b).2 = 0 := Classical.not_not.1 fun h => hbad (.inl h)
  have h8 : b.length <= 8000 := Nat.not_lt.1 fun h => hbad (.inr (.inl h))
  have h2 : 2 <= L.length := Nat.not_lt.1 fun h => hbad (.inr (.inr h))
  obtain ⟨hl2, t, hany⟩ := dec_good he
  obtain ⟨hh, h88, ps, l2, hr, hcf⟩ := any_run hb hany
  have hps := secG_run hr hb b.length (by omega) (by omega) rfl
  rw [hL] at hps
  subst hps
  rw [he] at hd1
  generalize (decS b).1 = md at hd1 hany hr hcf
  obtain ⟨U1, hU1⟩ : ∃ U, IntKind.u64.wrap first = U := ⟨_, rfl⟩
  obtain ⟨U2, hU2⟩ : ∃ U, IntKind.u64.wrap second = U := ⟨_, rfl⟩
  have hU10 : 0 <= U1 := by rw [<- hU1, IntKind.wrap_u64]; exact Int.emod_nonneg _ (by decide)
  have hU20 : 0 <= U2 := by rw [<- hU2, IntKind.wrap_u64]; exact Int.emod_nonneg _ (by decide)
  have el1 : IntKind.i64.wrap ((ps.length : Int) - 1) = ((ps.length - 1 : Nat) : Int) := by rw [wrap64_id _ (by omega) (by omega)]; omega
  have el2 : IntKind.u64.wrap ((ps.length - 1 : Nat) : Int) = ((ps.length - 1 : Nat) : Int) := by rw [IntKind.wrap_u64]; omega
  have el3 : IntKind.u64.wrap (ps.length : Int) = (ps.length : Int) := by rw [IntKind.wrap_u64]; omega
  obtain ⟨i, hi⟩ : ∃ k : Nat, U1 % ((ps.length - 1 : Nat) : Int) = k := ⟨(U1 % ((ps.length - 1 : Nat) : Int)).toNat, by have := Int.emod_nonneg U1 (show ((ps.length - 1 : Nat) : Int) ≠ 0 by omega); omega⟩
  have hil : (i : Int) < ((ps.length - 1 : Nat) : Int) := by rw [<- hi]; exact Int.emod_lt_of_pos _ (by omega)
  obtain ⟨j, hj⟩ : ∃ k : Nat, U2 % (ps.length : Int) = k := ⟨(U2 % (ps.length : Int)).toNat, by have := Int.emod_nonneg U2 (show (ps.length : Int) ≠ 0 by omega); omega⟩
  have hjl : (j : Int) < (ps.length : Int) := by rw [<- hj]; exact Int.emod_lt_of_pos _ (by omega)
  have et1 : U1.tmod ((ps.length - 1 : Nat) : Int) = (i : Int) := by rw [Int.tmod_eq_emod_of_nonneg hU10, hi]
  have et2 : U2.tmod (ps.length : Int) = (j : Int) := by rw [Int.tmod_eq_emod_of_nonneg hU20, hj]
  have eui : IntKind.u64.wrap (i : Int) = (i : Int) := by rw [IntKind.wrap_u64]; omega
  have eii : IntKind.i64.wrap (i : Int) = (i : Int) := wrap64_id _ (by omega) (by omega)
  have euj : IntKind.u64.wrap (j : Int) = (j : Int) := by rw [IntKind.wrap_u64]; omega
  have eij : IntKind.i64.wrap (j : Int) = (j : Int) := wrap64_id _ (by omega) (by omega)
  have ei1 : IntKind.i64.wrap ((i : Int) + 1) = ((i + 1 : Nat) : Int) := wrap64_id _ (by omega) (by omega)
  have m1 := run_mem hb hr (by omega) (i := i) (by omega)
  have m2 := run_mem hb hr (by omega) (i := i + 1) (by omega)
  have m12 := run_step hb hr (by omega) (i := i) (by omega)
  obtain ⟨pi, hpi⟩ : ∃ k : Nat, ps[i]'(by omega) = k := ⟨(ps[i]'(by omega)).toNat, by omega⟩
  obtain ⟨pi1, hpi1⟩ : ∃ k : Nat, ps[i + 1]'(by omega) = k := ⟨(ps[i + 1]'(by omega)).toNat, by omega⟩
  rw [hpi, hpi1] at m12
  rw [hpi] at m1
  rw [hpi1] at m2
  have gi : ps.getD i 0 = (pi : Int) := by rw [List.getD_eq_getElem?_getD, List.getElem?_eq_getElem (by omega), <- hpi]; rfl
  have gi1 : ps.getD (i + 1) 0 = (pi1 : Int) := by rw [List.getD_eq_getElem?_getD, List.getElem?_eq_getElem (by omega), <- hpi1]; rfl
  have dq1 : decide ((b.length : Int) > 8000) = false := decide_eq_false (by omega)
  have dq2 : decide ((ps.length : Int) < 2) = false := decide_eq_false (by omega)
  by_cases h0 : b.getD pi 0 = 0
  · have d0 : (b.getD pi 0 == 0) = true := beq_iff_eq.2 h0
    refine AC.enter Tryd.func5 rfl (Nat.le_of_ble_eq_true rfl) ?_
    simp only [Tryd.f5]
    have nx : type_of% @hU1 /\ type_of% @hU2 /\ type_of% @el1 /\ type_of% @el2 /\ type_of% @el3 /\ type_of% @et1 /\ type_of% @et2 /\ type_of% @eui /\ type_of% @eii /\ type_of% @euj /\ type_of% @eij /\ type_of% @gi /\ type_of% @dq1 /\ type_of% @dq2 /\ type_of% @d0 /\ True := ⟨@hU1, ⟨@hU2, ⟨@el1, ⟨@el2, ⟨@el3, ⟨@et1, ⟨@et2, ⟨@eui, ⟨@eii, ⟨@euj, ⟨@eij, ⟨@gi, ⟨@dq1, ⟨@dq2, ⟨@d0, trivial⟩⟩⟩⟩⟩⟩⟩⟩⟩⟩⟩⟩⟩⟩⟩
    refine' std2f07a
    all_goals first | exact ⟨trivial, trivial⟩ | exact ⟨rfl, trivial⟩ | exact ⟨rfl, rfl⟩ | exact ⟨trivial, rfl⟩ | (exfalso; omega) | trace_state
  have d0 : (b.getD pi 0 == 0) = false := beq_eq_false_iff_ne.2 h0
  obtain ⟨I1, hI1⟩ : ∃ I1, i + 1 = I1 := ⟨_, rfl⟩
  rw [hI1] at ei1 gi1
  have hIb : I1 < ps.length := by omega
  obtain ⟨J, hJ⟩ : ∃ J, (if j <= i then I1 else j) = J := ⟨_, rfl⟩
  have hJ1 : i < J /\ J < ps.length := by
    rw [<- hJ]; split <;> omega
  have m3 := run_mem hb hr (by omega) hJ1.2
  obtain ⟨pJ, hpJ⟩ : ∃ k : Nat, ps[J]'hJ1.2 = k := ⟨(ps[J]'hJ1.2).toNat, by omega⟩
  rw [hpJ] at m3
  have gJ : ps.getD J 0 = (pJ : Int) := by rw [List.getD_eq_getElem?_getD, List.getElem?_eq_getElem hJ1.2, <- hpJ]; rfl
  have hmid : (b.take pi1).drop pi = (b.drop pi).take (pi1 - pi) := List.drop_take
  have hlC : (b.take pJ ++ (b.take pi1).drop pi ++ b.drop pJ).length = pJ + (pi1 - pi) + (b.length - pJ) := by
    rw [List.length_append, List.length_append, List.length_take, List.length_drop, List.length_take, List.length_drop]; omega
  have hC := order_twice hb hh h88 hr hJ1.1 hJ1.2 hpi (by simp only [hI1] at hpi1 ⊢; exact hpi1) hpJ h0 (by rw [hlC]; omega)
  have hbC : bytes (b.take pJ ++ (b.take pi1).drop pi ++ b.drop pJ) := by
    intro x hx
    simp only [List.mem_append] at hx
    rcases hx with (hx | hx) | hx
    · exact hb x (List.mem_of_mem_take hx)
    · exact hb x (List.mem_of_mem_take (List.mem_of_mem_drop hx))
    · exact hb x (List.mem_of_mem_drop hx)
  have hd2 := dec_at (pJ + (pi1 - pi) + (b.length - pJ)) _ hbC hlC.symm
  rw [hC] at hd2
  obtain ⟨V, hV⟩ : ∃ V, U1 % 200 = V := ⟨_, rfl⟩
  have hV0 : 0 <= V /\ V < 200 := by rw [<- hV]; exact ⟨Int.emod_nonneg _ (by decide), Int.emod_lt_of_pos _ (by decide)⟩
  have ev1 : U1.tmod 200 = V := by rw [Int.tmod_eq_emod_of_nonneg hU10, hV]
  have ev2 : IntKind.u64.wrap (12 + V) = 12 + V := by rw [IntKind.wrap_u64]; omega
  have ev3 : IntKind.u8.wrap (12 + V) = 12 + V := by rw [IntKind.wrap_u8]; omega
  have ev4 : IntKind.u64.wrap V = V := by rw [IntKind.wrap_u64]; omega
  have hD := order_high hb (by omega) hh h88 hr (x := 12 + V) (by omega)
  have hbD : bytes (b ++ [12 + V, 0]) := by
    intro x hx
    rcases List.mem_append.1 hx with hx | hx
    · exact hb x hx
    · simp only [List.mem_cons, List.not_mem_nil, or_false] at hx
      rcases hx with rfl | rfl
      · exact ⟨by omega, by omega⟩
      · exact ⟨by omega, by omega⟩
  have hd3 := dec_at (b.length + 2) (b ++ [12 + V, 0]) hbD (by rw [List.length_append]; rfl)
  rw [hD] at hd3
  rw [hmid] at hd2
  have hd2 : AC Tryd.prog 9 [.view (pJ + (pi1 - pi) + (b.length - pJ)) 1 (nums .u8 (b.take pJ ++ (b.drop pi).take (pi1 - pi) ++ b.drop pJ))] (fun v m => v = .tup [.agg (modC mod0), .int .i64 10] /\ m = []) := hd2
  have hd3 : AC Tryd.prog 9 [.view (b.length + 2) 1 (nums .u8 (b ++ [12 + V, 0]))] (fun v m => v = .tup [.agg (modC mod0), .int .i64 10] /\ m = []) := hd3
  obtain ⟨A, hA⟩ : ∃ A, b.take pJ = A := ⟨_, rfl⟩
  obtain ⟨M, hM⟩ : ∃ M, (b.drop pi).take (pi1 - pi) = M := ⟨_, rfl⟩
  obtain ⟨D, hDd⟩ : ∃ D, b.drop pJ = D := ⟨_, rfl⟩
  have lA : A.length = pJ := by rw [<- hA, List.length_take]; omega
  have lM : M.length = pi1 - pi := by rw [<- hM, List.length_take, List.length_drop]; omega
  have lD : D.length = b.length - pJ := by rw [<- hDd, List.length_drop]
  have t1 : List.take pJ A = A := List.take_of_length_le (by omega)
  have t2 : List.take (pJ + (pi1 - pi)) (A ++ M) = A ++ M := List.take_of_length_le (by rw [List.length_append]; omega)
  have t3 : List.take (b.length - pJ) D = D := List.take_of_length_le (by omega)
  have t4 : List.take (pJ + (pi1 - pi) + (b.length - pJ)) (A ++ M ++ D) = A ++ M ++ D := List.take_of_length_le (by rw [List.length_append, List.length_append]; omega)
  have t5 : List.take b.length b = b := List.take_length
  have t6 : List.take (b.length + 2) (b ++ [12 + V, 0]) = b ++ [12 + V, 0] := List.take_of_length_le (by rw [List.length_append]; exact Nat.le_refl _)
  rw [hA, hM, hDd] at hd2
  clear hh hl2 hany hr hcf hC hD hbC hbD hlC hpJ hpi hpi1 h0
  refine AC.enter Tryd.func5 rfl (Nat.le_of_ble_eq_true rfl) ?_
  simp only [Tryd.f5]
  by_cases hji : j <= i
  · rw [if_pos hji] at hJ
    subst hJ
    obtain rfl : pJ = pi1 := by have := gJ.symm.trans gi1; omega
    have dji : decide ((j : Int) <= (i : Int)) = true := decide_eq_true (by omega)
    have nx : type_of% @hU1 /\ type_of% @hU2 /\ type_of% @el1 /\ type_of% @el2 /\ type_of% @el3 /\ type_of% @et1 /\ type_of% @et2 /\ type_of% @eui /\ type_of% @eii /\ type_of% @euj /\ type_of% @eij /\ type_of% @gi /\ type_of% @dq1 /\ type_of% @dq2 /\ type_of% @d0 /\ type_of% @ei1 /\ type_of% @gi1 /\ type_of% @gJ /\ type_of% @dji /\ type_of% @ev1 /\ type_of% @ev2 /\ type_of% @ev3 /\ type_of% @ev4 /\ type_of% @hA /\ type_of% @hM /\ type_of% @hDd /\ type_of% @t1 /\ type_of% @t2 /\ type_of% @t3 /\ type_of% @t4 /\ type_of% @t5 /\ type_of% @t6 /\ True := ⟨@hU1, ⟨@hU2, ⟨@el1, ⟨@el2, ⟨@el3, ⟨@et1, ⟨@et2, ⟨@eui, ⟨@eii, ⟨@euj, ⟨@eij, ⟨@gi, ⟨@dq1, ⟨@dq2, ⟨@d0, ⟨@ei1, ⟨@gi1, ⟨@gJ, ⟨@dji, ⟨@ev1, ⟨@ev2, ⟨@ev3, ⟨@ev4, ⟨@hA, ⟨@hM, ⟨@hDd, ⟨@t1, ⟨@t2, ⟨@t3, ⟨@t4, ⟨@t5, ⟨@t6, trivial⟩⟩⟩⟩⟩⟩⟩⟩⟩⟩⟩⟩⟩⟩⟩⟩⟩⟩⟩⟩⟩⟩⟩⟩⟩⟩⟩⟩⟩⟩⟩⟩
    refine' sta52f29
    all_goals first | exact ⟨trivial, trivial⟩ | exact ⟨rfl, trivial⟩ | exact ⟨rfl, rfl⟩ | exact ⟨trivial, rfl⟩ | (exfalso; omega) | trace_state
  · rw [if_neg hji] at hJ
    subst hJ
    have dji : decide ((j : Int) <= (i : Int)) = false := decide_eq_false (by omega)
    have nx : type_of% @hU1 /\ type_of% @hU2 /\ type_of% @el1 /\ type_of% @el2 /\ type_of% @el3 /\ type_of% @et1 /\ type_of% @et2 /\ type_of% @eui /\ type_of% @eii /\ type_of% @euj /\ type_of% @eij /\ type_of% @gi /\ type_of% @dq1 /\ type_of% @dq2 /\ type_of% @d0 /\ type_of% @ei1 /\ type_of% @gi1 /\ type_of% @gJ /\ type_of% @dji /\ type_of% @ev1 /\ type_of% @ev2 /\ type_of% @ev3 /\ type_of% @ev4 /\ type_of% @hA /\ type_of% @hM /\ type_of% @hDd /\ type_of% @t1 /\ type_of% @t2 /\ type_of% @t3 /\ type_of% @t4 /\ type_of% @t5 /\ type_of% @t6 /\ True := ⟨@hU1, ⟨@hU2, ⟨@el1, ⟨@el2, ⟨@el3, ⟨@et1, ⟨@et2, ⟨@eui, ⟨@eii, ⟨@euj, ⟨@eij, ⟨@gi, ⟨@dq1, ⟨@dq2, ⟨@d0, ⟨@ei1, ⟨@gi1, ⟨@gJ, ⟨@dji, ⟨@ev1, ⟨@ev2, ⟨@ev3, ⟨@ev4, ⟨@hA, ⟨@hM, ⟨@hDd, ⟨@t1, ⟨@t2, ⟨@t3, ⟨@t4, ⟨@t5, ⟨@t6, trivial⟩⟩⟩⟩⟩⟩⟩⟩⟩⟩⟩⟩⟩⟩⟩⟩⟩⟩⟩⟩⟩⟩⟩⟩⟩⟩⟩⟩⟩⟩⟩⟩
    refine' sta52f29
    all_goals first | exact ⟨trivial, trivial⟩ | exact ⟨rfl, trivial⟩ | exact ⟨rfl, rfl⟩ | exact ⟨trivial, rfl⟩ | (exfalso; omega) | trace_state
end Go.Proofs.YtmomeejfopfchaaDoor
