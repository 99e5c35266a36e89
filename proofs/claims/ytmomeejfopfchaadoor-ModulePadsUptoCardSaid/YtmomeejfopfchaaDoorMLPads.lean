/- ModulePads. -/
import Derived.Test.YtmomeejfopfchaaDoorDP
import Derived.Test.YtmomeejfopfchaaDoorGTabs
import Derived.Test.YtmomeejfopfchaaDoorDC
import Derived.Test.YtmomeejfopfchaaDoorGTy
import Derived.Test.YtmomeejfopfchaaDoorCB
import Derived.Test.YtmomeejfopfchaaDoorMLCuts
import Derived.Test.YtmomeejfopfchaaDoorGCallQ
set_option linter.unusedSimpArgs false
set_option linter.unusedVariables false
namespace Go.Proofs.YtmomeejfopfchaaDoor
set_option maxRecDepth 20000
open Go Go.Abs Nat
theorem cb12 : callable Tryd.prog 12 = true := by kernel_rfl
attribute [local irreducible] AW AWL AC FW CW CWr IntKind.wrap
def toB8 (w : List UInt8) : List Int := w.map fun x => (x.toNat : Int)
theorem dec_raw10 {b : List Int} (hb : bytes b) (hl : b.length <= 16384) (h : decS b = (mod0, 10)) : AC Tryd.prog 9 [.view b.length 1 (nums .u8 b)] (fun v m => v = .tup [.agg modZ, .int .i64 10] /\ m = []) := by
  refine (dec_raw b hb hl).out fun v mm hR => ?_
  obtain ⟨rfl, hR⟩ := hR
  rw [dec_any hl] at h
  rcases hx : anyT b with ⟨e, t⟩ | ⟨m, t⟩
  · rw [hx] at h hR
    have he : e = 10 := congrArg Prod.snd h
    have hR : v = .tup [.agg modZ, .int .i64 e] := hR
    subst he hR
    exact ⟨_, _, ⟨rfl, rfl⟩, fun _ _ _ _ ho => ho⟩
  · rw [hx] at h
    have := congrArg Prod.snd h
    simp at this
theorem same_zz : AC Tryd.prog 10 [.agg modZ, .agg modZ] (fun r m => r = .bool true /\ m = []) :=
  (smod_ok mod0 (sm0 0)).wk (.cons (Wk.agg wkZ) (.cons (Wk.agg wkZ) .nil))
theorem toB8_len (w : List UInt8) : (toB8 w).length = w.length := by unfold toB8; rw [List.length_map]
theorem toB8_bytes (w : List UInt8) : bytes (toB8 w) := by
  intro x hx
  obtain ⟨y, _, rfl⟩ := List.mem_map.1 hx
  have := y.toNat_lt
  exact ⟨by omega, by omega⟩
theorem toB8_cells (w : List UInt8) : w.map byteV = nums .u8 (toB8 w) := by
  unfold toB8 nums
  rw [List.map_map]; rfl
theorem MMLPads.NM : type_of% @NSX /\ type_of% @St.keepS.eq_1 /\ type_of% @TY /\ type_of% @SLS /\ type_of% @nums_length /\ type_of% @modC.eq_1 /\ type_of% @modZ.eq_1 /\ type_of% @toB8.eq_1 :=
  ⟨NSX, St.keepS.eq_1, @TY, @SLS, @nums_length, @modC.eq_1, @modZ.eq_1, @toB8.eq_1⟩
open MMLPads
theorem K1MLPads.kp {P : Program} {c : Code} {Q : Exit -> St -> Prop} {st : St} (h : AW P c Q (st.keepS [0, 1, 2, 6, 7, 8, 9, 10, 11, 12, 13, 14, 15])) : AW P c Q st := AW.keepS _ h
theorem K1MLPads.cl {p : Prop} (h : p := by
  first
    | (refine AWL.callQ (f := 9) rfl rfl rfl ?_ (Nat.le_of_ble_eq_true rfl) ?_ (hd3) rfl ?_; (focus kernel_rfl); (focus (simp (disch := omega) only [VW, List.toList_toArray, List.map_cons, List.map_nil, NM, Nat.reduceBEq, reduceAdd, reduceMul, Int.reduceToNat, reduceSub, List.set_cons_zero, List.set_cons_succ, nx]; (try exact rfl); done)))
    | refine AWL.frzG rfl rfl rfl ?_
    | refine AWL.cC (f := 8) cb8 rfl rfl rfl rfl rfl rfl (awake_ok) ?_
    | refine AWL.cC (f := 9) cb9 rfl rfl rfl rfl rfl rfl (hd1) ?_
    | refine AWL.cC (f := 9) cb9 rfl rfl rfl rfl rfl rfl (hd2) ?_
    | refine AWL.cC (f := 9) cb9 rfl rfl rfl rfl rfl rfl (hd4) ?_
    | refine AWL.cC (f := 10) cb10 rfl rfl rfl rfl rfl rfl (hs0) ?_
    | refine AWL.cC (f := 10) cb10 rfl rfl rfl rfl rfl rfl (hs1) ?_
    | refine AWL.cC (f := 10) cb10 rfl rfl rfl rfl rfl rfl (hs2) ?_
    | refine AWL.cC (f := 11) cb11 rfl rfl rfl rfl rfl rfl (hsec) ?_
    | refine AWL.cC (f := 12) cb12 rfl rfl rfl rfl rfl rfl (hutf) ?_
  all_goals (apply_rules (newGoals := .nonDependentOnly) only [dep])
  all_goals constructor) : p := h
theorem K1MLPads.sd {p : Prop} (h : p := by first | exact sd1dcd80) : p := h
open K1MLPads in
set_option maxHeartbeats 6400000 in
theorem mpads_ok (b : List Int) (hb : bytes b) (hl : b.length <= 1048576) (wh : Int) (w : List UInt8) : AC Tryd.prog 3 [.view b.length 1 (nums .u8 b), .int .i64 wh, .str w] (fun r m => r = .bool true /\ m = []) := by
  have hd1 := dec_ok b hb
  have hs0 := same_zero
  unfold modC mod0 modZ at hs0
  have hs2 := same_zz
  unfold modZ at hs2
  have hbw := toB8_bytes w
  by_cases hbad : (decS b).2 ≠ 0 \/ w.length > 100 \/ b.length > 16000
  · have hd2 : True := trivial
    have hd3 : True := trivial
    have hd4 : True := trivial
    have hs1 : True := trivial
    have hsec : True := trivial
    have hutf : True := trivial
    by_cases he : (decS b).2 ≠ 0
    · rw [dec_err he] at hd1
      generalize (decS b).2 = e at he hd1
      have d1 : (e == 0) = false := beq_eq_false_iff_ne.2 he
      clear hbad
      refine AC.enter Tryd.func3 rfl (Nat.le_of_ble_eq_true rfl) ?_
      simp only [Tryd.f3]
      have nx : type_of% @d1 /\ True := ⟨@d1, trivial⟩
      refine' st0adab4
      all_goals first | exact ⟨trivial, trivial⟩ | exact ⟨rfl, trivial⟩ | exact ⟨rfl, rfl⟩ | exact ⟨trivial, rfl⟩ | (exfalso; omega) | trace_state
    · have he := Classical.not_not.1 he
      rw [he] at hd1
      by_cases h1 : w.length > 100
      · have d1 : decide ((w.length : Int) > 100) = true := decide_eq_true (by omega)
        clear hbad
        refine AC.enter Tryd.func3 rfl (Nat.le_of_ble_eq_true rfl) ?_
        simp only [Tryd.f3]
        have nx : type_of% @d1 /\ True := ⟨@d1, trivial⟩
        refine' st0adab4
        all_goals first | exact ⟨trivial, trivial⟩ | exact ⟨rfl, trivial⟩ | exact ⟨rfl, rfl⟩ | exact ⟨trivial, rfl⟩ | (exfalso; omega) | trace_state
      · have d1 : decide ((w.length : Int) > 100) = false := decide_eq_false (by omega)
        have d2 : decide ((b.length : Int) > 16000) = true := decide_eq_true (by omega)
        clear hbad h1
        refine AC.enter Tryd.func3 rfl (Nat.le_of_ble_eq_true rfl) ?_
        simp only [Tryd.f3]
        have nx : type_of% @d1 /\ type_of% @d2 /\ True := ⟨@d1, ⟨@d2, trivial⟩⟩
        refine' st0adab4
        all_goals first | exact ⟨trivial, trivial⟩ | exact ⟨rfl, trivial⟩ | exact ⟨rfl, rfl⟩ | exact ⟨trivial, rfl⟩ | (exfalso; omega) | trace_state
  have he : (decS b).2 = 0 := Classical.not_not.1 fun h => hbad (.inl h)
  have hw1 : w.length <= 100 := Nat.not_lt.1 fun h => hbad (.inr (.inl h))
  have hb1 : b.length <= 16000 := Nat.not_lt.1 fun h => hbad (.inr (.inr h))
  obtain ⟨hl2, t, hany⟩ := dec_good he
  obtain ⟨hh, h88, ps, l2, hr, hcf⟩ := any_run hb hany
  have hps := secG_run hr hb b.length (by omega) (by omega) rfl
  have hsec := sects_ok b hb (by omega)
  rw [<- hps] at hsec
  have hsm := dec_sm hb
  have hpl : ps.length <= b.length + 1 /\ 1 <= ps.length := by rw [hps]; have := secG_len b b.length 8; simp only [List.length_cons]; omega
  rw [he] at hd1
  generalize (decS b).1 = md at hd1 hany hr hcf hsm
  have hs1 := smod_ok md hsm
  obtain ⟨U, hU⟩ : ∃ U, IntKind.u64.wrap wh = U := ⟨_, rfl⟩
  have hU0 : 0 <= U := by rw [<- hU, IntKind.wrap_u64]; exact Int.emod_nonneg _ (by decide)
  have el3 : IntKind.u64.wrap (ps.length : Int) = (ps.length : Int) := by rw [IntKind.wrap_u64]; omega
  obtain ⟨i, hi⟩ : ∃ k : Nat, U % (ps.length : Int) = k := ⟨(U % (ps.length : Int)).toNat, by have := Int.emod_nonneg U (show (ps.length : Int) ≠ 0 by omega); omega⟩
  have hil : (i : Int) < (ps.length : Int) := by rw [<- hi]; exact Int.emod_lt_of_pos _ (by omega)
  have et1 : U.tmod (ps.length : Int) = (i : Int) := by rw [Int.tmod_eq_emod_of_nonneg hU0, hi]
  have eui : IntKind.u64.wrap (i : Int) = (i : Int) := by rw [IntKind.wrap_u64]; omega
  have eii : IntKind.i64.wrap (i : Int) = (i : Int) := wrap64_id _ (by omega) (by omega)
  have hi2 : i < ps.length := by omega
  obtain ⟨_, _, _, _, hrun1, _, _⟩ := run_split hr i hi2
  have hrb := run_bnd hrun1 hb ⟨by omega, by omega⟩
  obtain ⟨k, hk⟩ : ∃ k : Nat, ps[i] = k := ⟨ps[i].toNat, by omega⟩
  rw [hk] at hrb
  have gk : ps.getD i 0 = (k : Int) := by rw [List.getD_eq_getElem?_getD, List.getElem?_eq_getElem hi2, <- hk]; rfl
  have hkm : (k : Int) ∈ ps := by rw [<- hk]; exact List.getElem_mem _
  clear hrun1
  have hkb : k <= b.length := by omega
  have ew3 : IntKind.i64.wrap ((w.length : Int) + 3) = ((w.length + 3 : Nat) : Int) := wrap64_id _ (by omega) (by omega)
  have ew8 : IntKind.u8.wrap ((w.length + 3 : Nat) : Int) = ((w.length + 3 : Nat) : Int) := by rw [IntKind.wrap_u8]; omega
  have ew9 : IntKind.u8.wrap (w.length : Int) = (w.length : Int) := by rw [IntKind.wrap_u8]; omega
  have hW := toB8_len w
  have hcw := toB8_cells w
  obtain ⟨X, hX⟩ : ∃ X, toB8 w = X := ⟨_, rfl⟩
  rw [hX] at hbw hW hcw
  obtain ⟨A, hA⟩ : ∃ A, b.take k = A := ⟨_, rfl⟩
  obtain ⟨D, hD⟩ : ∃ D, b.drop k = D := ⟨_, rfl⟩
  have lA : A.length = k := by rw [<- hA, List.length_take]; omega
  have lD : D.length = b.length - k := by rw [<- hD, List.length_drop]
  have hbXz : bytes (X ++ [255, 128]) := by
    intro x hx
    rcases List.mem_append.1 hx with hx | hx
    · exact hbw x hx
    · simp only [List.mem_cons, List.not_mem_nil, or_false] at hx
      rcases hx with rfl | rfl <;> exact ⟨by decide, by decide⟩
  have hbA : bytes A := fun x hx => hb x (List.mem_of_mem_take (hA ▸ hx))
  have hbD : bytes D := fun x hx => hb x (List.mem_of_mem_drop (hD ▸ hx))
  have hP := pad_in hb hh h88 hr hcf hkm (n := w.length + 3) (wl := w.length) (w := X) (z := [255, 128]) hW hbXz (by omega) (by omega) (by omega) (by simp; omega) (by
    rw [List.length_append, List.length_append, hA, hD, lA, lD]; simp only [List.length_cons, List.length_append, List.length_nil, hW]; omega)
  have hQ := pad_in hb hh h88 hr hcf hkm (n := 3) (wl := 2) (w := [195, 40]) (z := []) rfl (by
    intro x hx
    simp only [List.append_nil, List.mem_cons, List.not_mem_nil, or_false] at hx
    rcases hx with rfl | rfl <;> exact ⟨by decide, by decide⟩) (by decide) (by decide) (by decide) (by decide) (by
    rw [List.length_append, List.length_append, hA, hD, lA, lD]; simp only [List.length_cons, List.length_append, List.length_nil]; omega)
  rw [if_neg (by decide)] at hQ
  have hS := pad_short hb hb1 hh h88 hr
  rw [hA, hD] at hP hQ
  have hbP : bytes (A ++ (0 :: ((w.length + 3 : Nat) : Int) :: (w.length : Int) :: (X ++ [255, 128])) ++ D) := by
    intro x hx
    rcases List.mem_append.1 hx with hx | hx
    · rcases List.mem_append.1 hx with hx | hx
      · exact hbA x hx
      · simp only [List.mem_cons] at hx
        rcases hx with rfl | rfl | rfl | hx
        · exact ⟨by decide, by decide⟩
        · exact ⟨by omega, by omega⟩
        · exact ⟨by omega, by omega⟩
        · exact hbXz x (by simpa using hx)
    · exact hbD x hx
  have hbQ : bytes (A ++ (0 :: ((3 : Nat) : Int) :: ((2 : Nat) : Int) :: ([195, 40] ++ [])) ++ D) := by
    intro x hx
    rcases List.mem_append.1 hx with hx | hx
    · rcases List.mem_append.1 hx with hx | hx
      · exact hbA x hx
      · simp only [List.append_nil, List.mem_cons, List.not_mem_nil, or_false] at hx
        rcases hx with rfl | rfl | rfl | rfl | rfl <;> exact ⟨by decide, by decide⟩
    · exact hbD x hx
  have hbS : bytes (b ++ [0, 2, 1]) := by
    intro x hx
    rcases List.mem_append.1 hx with hx | hx
    · exact hb x hx
    · simp only [List.mem_cons, List.not_mem_nil, or_false] at hx
      rcases hx with rfl | rfl | rfl <;> exact ⟨by decide, by decide⟩
  have hd2 := dec_at (k + (3 + w.length + 2) + (b.length - k)) _ hbP (by rw [List.length_append, List.length_append, lA, lD]; simp only [List.length_cons, List.length_append, List.length_nil, hW]; omega)
  rw [hP] at hd2
  have hd3 := dec_raw10 hbQ (by rw [List.length_append, List.length_append, lA, lD]; simp only [List.length_cons, List.length_append, List.length_nil]; omega) hQ
  rw [show (A ++ (0 :: ((3 : Nat) : Int) :: ((2 : Nat) : Int) :: ([195, 40] ++ [])) ++ D).length = k + 5 + (b.length - k) by rw [List.length_append, List.length_append, lA, lD]; rfl] at hd3
  have hd3 : AC Tryd.prog 9 [.view (k + 5 + (b.length - k)) 1 (nums .u8 (A ++ [0, 3, 2, 195, 40] ++ D))] (fun v m => v = .tup [.agg modZ, .int .i64 10] /\ m = []) := hd3
  have hd4 := dec_raw10 hbS (by rw [List.length_append]; simp only [List.length_cons, List.length_nil]; omega) hS
  have hd4l : (b ++ [0, 2, 1]).length = b.length + 3 := by rw [List.length_append]; rfl
  rw [hd4l] at hd4
  have hutf := utf_ok X hbw (by omega)
  rw [hW] at hutf
  have tA : List.take k A = A := List.take_of_length_le (by omega)
  have tD : List.take (b.length - k) D = D := List.take_of_length_le (by omega)
  have tb : List.take b.length b = b := List.take_length
  have tX : List.take w.length X = X := List.take_of_length_le (by omega)
  have p1 : List.take (3 + w.length) (0 :: ((w.length + 3 : Nat) : Int) :: (w.length : Int) :: X) = 0 :: ((w.length + 3 : Nat) : Int) :: (w.length : Int) :: X := List.take_of_length_le (by simp only [List.length_cons]; omega)
  have p2 : List.take (3 + w.length + 2) (0 :: ((w.length + 3 : Nat) : Int) :: (w.length : Int) :: (X ++ [255, 128])) = 0 :: ((w.length + 3 : Nat) : Int) :: (w.length : Int) :: (X ++ [255, 128]) := List.take_of_length_le (by simp only [List.length_cons, List.length_append, List.length_nil]; omega)
  have p3 : List.take (k + (3 + w.length + 2)) (A ++ 0 :: ((w.length + 3 : Nat) : Int) :: (w.length : Int) :: (X ++ [255, 128])) = A ++ 0 :: ((w.length + 3 : Nat) : Int) :: (w.length : Int) :: (X ++ [255, 128]) := List.take_of_length_le (by simp only [List.length_cons, List.length_append, List.length_nil]; omega)
  have p4 : List.take (k + (3 + w.length + 2) + (b.length - k)) (A ++ 0 :: ((w.length + 3 : Nat) : Int) :: (w.length : Int) :: (X ++ [255, 128]) ++ D) = A ++ 0 :: ((w.length + 3 : Nat) : Int) :: (w.length : Int) :: (X ++ [255, 128]) ++ D := List.take_of_length_le (by simp only [List.length_cons, List.length_append, List.length_nil]; omega)
  have q1 : List.take (k + 5) (A ++ [0, 3, 2, 195, 40]) = A ++ [0, 3, 2, 195, 40] := List.take_of_length_le (by simp only [List.length_cons, List.length_append, List.length_nil]; omega)
  have q2 : List.take (k + 5 + (b.length - k)) (A ++ [0, 3, 2, 195, 40] ++ D) = A ++ [0, 3, 2, 195, 40] ++ D := List.take_of_length_le (by simp only [List.length_cons, List.length_append, List.length_nil]; omega)
  have s1 : List.take (b.length + 3) (b ++ [0, 2, 1]) = b ++ [0, 2, 1] := List.take_of_length_le (by rw [List.length_append]; exact Nat.le_refl _)
  clear hP hQ hS hbP hbQ hbS hbXz hbA hbD hh hr hcf hany hbad hl2 hps hsm hkm
  refine AC.enter Tryd.func3 rfl (Nat.le_of_ble_eq_true rfl) ?_
  simp only [Tryd.f3]
  have d1 : decide ((w.length : Int) > 100) = false := decide_eq_false (by omega)
  have d2 : decide ((b.length : Int) > 16000) = false := decide_eq_false (by omega)
  clear hl
  unfold modC at hs1
  by_cases hv : validS X = true
  · rw [if_pos hv] at hd2
    rw [hv] at hutf
    have nx : type_of% @d1 /\ type_of% @d2 /\ type_of% @hU /\ type_of% @el3 /\ type_of% @et1 /\ type_of% @eui /\ type_of% @eii /\ type_of% @gk /\ type_of% @ew3 /\ type_of% @ew8 /\ type_of% @ew9 /\ type_of% @hcw /\ type_of% @hA /\ type_of% @hD /\ type_of% @tA /\ type_of% @tD /\ type_of% @tb /\ type_of% @tX /\ type_of% @p1 /\ type_of% @p2 /\ type_of% @p3 /\ type_of% @p4 /\ type_of% @q1 /\ type_of% @q2 /\ type_of% @s1 /\ True := ⟨@d1, ⟨@d2, ⟨@hU, ⟨@el3, ⟨@et1, ⟨@eui, ⟨@eii, ⟨@gk, ⟨@ew3, ⟨@ew8, ⟨@ew9, ⟨@hcw, ⟨@hA, ⟨@hD, ⟨@tA, ⟨@tD, ⟨@tb, ⟨@tX, ⟨@p1, ⟨@p2, ⟨@p3, ⟨@p4, ⟨@q1, ⟨@q2, ⟨@s1, trivial⟩⟩⟩⟩⟩⟩⟩⟩⟩⟩⟩⟩⟩⟩⟩⟩⟩⟩⟩⟩⟩⟩⟩⟩⟩
    refine' st0adab4
    all_goals first | exact ⟨trivial, trivial⟩ | exact ⟨rfl, trivial⟩ | exact ⟨rfl, rfl⟩ | exact ⟨trivial, rfl⟩ | (exfalso; omega) | trace_state
  · rw [if_neg hv] at hd2
    rw [Bool.eq_false_iff.2 hv] at hutf
    have nx : type_of% @d1 /\ type_of% @d2 /\ type_of% @hU /\ type_of% @el3 /\ type_of% @et1 /\ type_of% @eui /\ type_of% @eii /\ type_of% @gk /\ type_of% @ew3 /\ type_of% @ew8 /\ type_of% @ew9 /\ type_of% @hcw /\ type_of% @hA /\ type_of% @hD /\ type_of% @tA /\ type_of% @tD /\ type_of% @tb /\ type_of% @tX /\ type_of% @p1 /\ type_of% @p2 /\ type_of% @p3 /\ type_of% @p4 /\ type_of% @q1 /\ type_of% @q2 /\ type_of% @s1 /\ True := ⟨@d1, ⟨@d2, ⟨@hU, ⟨@el3, ⟨@et1, ⟨@eui, ⟨@eii, ⟨@gk, ⟨@ew3, ⟨@ew8, ⟨@ew9, ⟨@hcw, ⟨@hA, ⟨@hD, ⟨@tA, ⟨@tD, ⟨@tb, ⟨@tX, ⟨@p1, ⟨@p2, ⟨@p3, ⟨@p4, ⟨@q1, ⟨@q2, ⟨@s1, trivial⟩⟩⟩⟩⟩⟩⟩⟩⟩⟩⟩⟩⟩⟩⟩⟩⟩⟩⟩⟩⟩⟩⟩⟩⟩
    refine' st0adab4
    all_goals first | exact ⟨trivial, trivial⟩ | exact ⟨rfl, trivial⟩ | exact ⟨rfl, rfl⟩ | exact ⟨trivial, rfl⟩ | (exfalso; omega) | trace_state
end Go.Proofs.YtmomeejfopfchaaDoor
