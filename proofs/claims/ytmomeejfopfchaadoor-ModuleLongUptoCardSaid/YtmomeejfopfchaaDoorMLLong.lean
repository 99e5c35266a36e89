/- ModuleLong. -/
import Derived.Test.YtmomeejfopfchaaDoorDP
import Derived.Test.YtmomeejfopfchaaDoorGTabs
import Derived.Test.YtmomeejfopfchaaDoorGTy
import Derived.Test.YtmomeejfopfchaaDoorCB
import Derived.Test.YtmomeejfopfchaaDoorGMLong
import Derived.Test.YtmomeejfopfchaaDoorMLCuts
set_option linter.unusedSimpArgs false
set_option linter.unusedVariables false
namespace Go.Proofs.YtmomeejfopfchaaDoor
set_option maxRecDepth 20000
open Go Go.Abs Nat
attribute [local irreducible] AW AWL AC FW CW CWr IntKind.wrap
theorem most_ok {Z : Nat} (hZ : Z = 16384) : AC Tryd.prog 13 [] (fun r m => r = .ref 0 0 Z 1 /\ m = [(0, nums .u8 (XL [] 0))]) := by
  have := most_raw
  rw [<- hZ] at this
  rwa [xl_cells] at this
theorem same_start : AC Tryd.prog 10 [.agg (modC modS), .agg [.nils, .nils, .nils, .nils, .nils, .nils, .nils, .int .i64 (-1), .nils, .nils, .nils]] (fun r m => r = .bool true /\ m = []) :=
  (smod_ok modS (sm0 (-1))).wk (.cons (Wk.refl _) (.cons (Wk.agg (.cons (Wk.nils 2) (.cons (Wk.nils 3) (.cons (Wk.nils 1) (.cons (Wk.nils 2) (.cons (Wk.nils 2) (.cons (Wk.nils 3) (.cons (Wk.nils 3) (.cons (Wk.refl _) (.cons (Wk.nils 2) (.cons (Wk.nils 2) (.cons (Wk.nils 2) .nil)))))))))))) .nil))
theorem MMLLong.NM : type_of% @NSX /\ type_of% @St.keepS.eq_1 /\ type_of% @TY /\ type_of% @SLS /\ type_of% @nums_length /\ type_of% @G6.eq_1 /\ type_of% @modC.eq_1 /\ type_of% @modZ.eq_1 :=
  ⟨NSX, St.keepS.eq_1, @TY, @SLS, @nums_length, @G6.eq_1, @modC.eq_1, @modZ.eq_1⟩
open MMLLong
theorem K1MLLong.kp {P : Program} {c : Code} {Q : Exit -> St -> Prop} {st : St} (h : AW P c Q (st.keepS [0, 2, 3, 4, 5, 6, 7, 8, 9])) : AW P c Q st := AW.keepS _ h
theorem K1MLLong.cl {p : Prop} (h : p := by
  first
    | refine AWL.frzG rfl rfl rfl ?_
    | refine AWL.cC (f := 8) cb8 rfl rfl rfl rfl rfl rfl (awake_ok) ?_
    | refine AWL.cC (f := 13) cb13 rfl rfl rfl rfl rfl rfl (hmo) ?_
    | refine AWL.cC (f := 9) cb9 rfl rfl rfl rfl rfl rfl (hd1) ?_
    | refine AWL.cC (f := 9) cb9 rfl rfl rfl rfl rfl rfl (hd2) ?_
    | refine AWL.cC (f := 10) cb10 rfl rfl rfl rfl rfl rfl (hs1) ?_
    | refine AWL.cC (f := 10) cb10 rfl rfl rfl rfl rfl rfl (hs0) ?_
  all_goals (apply_rules (newGoals := .nonDependentOnly) only [dep])
  all_goals constructor) : p := h
theorem K1MLLong.sd {p : Prop} (h : p := by first | exact sd1eb496) : p := h
open K1MLLong in
set_option maxHeartbeats 6400000 in
theorem mlong_ok (b : List Int) (hb : bytes b) (hl : b.length <= 1048576) : AC Tryd.prog 6 [.view b.length 1 (nums .u8 b)] (fun r m => r = .bool true /\ m = []) := by
  obtain ⟨Z, hZ⟩ : ∃ Z : Nat, Z = 16384 := ⟨_, rfl⟩
  have hmo := most_ok hZ
  have hs0 := same_zero
  have hs1 := same_start
  unfold modC mod0 modZ at hs0
  unfold modC modS mod0 at hs1
  have hd1 : True := trivial
  have hd2 : True := trivial
  refine AC.enter Tryd.func6 rfl (Nat.le_of_ble_eq_true rfl) ?_
  simp only [Tryd.f6]
  have hxt : List.take Z (XL [] 0) = XL [] 0 := List.take_of_length_le (by rw [xl_len [] (i := 0) (Nat.zero_le _) (by omega), hZ]; exact Nat.le_refl _)
  have nx : type_of% @xl_zero /\ type_of% @hxt /\ True := ⟨@xl_zero, ⟨@hxt, trivial⟩⟩
  refine' std2f07a
  refine AW.loop [0, 3, 4, 5] [3, 4] (fun m st => ∃ i : Nat, st = G6 Z b i /\ i <= b.length /\ i <= 16000 /\ m = b.length - i) ?_ ?_
  · exact ⟨_, 0, by rw [G6, xl_zero]; rfl, Nat.zero_le _, Nat.zero_le _, rfl⟩
  rintro m st ⟨i, rfl, hi, hi2, rfl⟩
  have hbx := xl_bytes hb i
  by_cases c1 : i < b.length /\ i < 16000
  · have d1 : decide ((i : Int) < (b.length : Int)) = true := decide_eq_true (by omega)
    have d2 : ∀ z : Int, z = (i : Int) -> decide (z < 16000) = true := fun z hz => decide_eq_true (by omega)
    have e7 : IntKind.i64.wrap ((i : Int) + 1) = ((i + 1 : Nat) : Int) := wrap64_id _ (by omega) (by omega)
    have e12 : IntKind.i64.wrap (12 + (i : Int)) = ((12 + i : Nat) : Int) := wrap64_id _ (by omega) (by omega)
    have s1 := xl_set b [] c1.1 (by omega)
    have s2 := xl_set b [0] c1.1 (by omega)
    rw [List.append_nil, List.append_nil] at s1
    have hl1 := xl_len b hi (by omega)
    rw [<- hZ] at hl1
    have hl2 : (XL b i ++ [0]).length = Z + 1 := by rw [List.length_append, hl1]; rfl
    have hA : i + 1 <= b.length := c1.1
    have hB : b.length - (i + 1) < b.length - i := by omega
    have hC : ∀ z : Nat, z = i + 1 -> z <= 16000 := fun z hz => by omega
    have hx1 : 12 + i < Z := by omega
    have hx2 : 12 + i < Z + 1 := by omega
    have hil : i < b.length := c1.1
    clear c1 hi2 hZ hl hbx hi
    have nx : type_of% @d1 /\ type_of% @d2 /\ type_of% @e7 /\ type_of% @e12 /\ type_of% @setI_nums /\ type_of% @setI_nums2 /\ type_of% @s1 /\ type_of% @s2 /\ True := ⟨@d1, ⟨@d2, ⟨@e7, ⟨@e12, ⟨@setI_nums, ⟨@setI_nums2, ⟨@s1, ⟨@s2, trivial⟩⟩⟩⟩⟩⟩⟩⟩
    refine' std2f07a
    all_goals first
      | exact ⟨b.length - (i + 1), hB, i + 1, rfl, hA, hC _ rfl, rfl⟩
      | trace_state
  have hdx := dec_at Z (XL b i) hbx (by rw [hZ]; exact (xl_len b hi (by omega)).symm)
  rw [show decS (XL b i) = (modS, 0) from long_any _ hbx (by rw [List.length_append, List.length_take, List.length_replicate]; omega)] at hdx
  have hd1 : AC Tryd.prog 9 [.view Z 1 (nums .u8 (XL b i))] (fun v m => v = .tup [.agg (modC modS), .int .i64 0] /\ m = []) := hdx
  have hby : bytes (XL b i ++ [0]) := by
    intro x hx
    rcases List.mem_append.1 hx with hx | hx
    · exact hbx x hx
    · have := List.mem_singleton.1 hx; subst this; exact ⟨by omega, by omega⟩
  have hdy := dec_at (Z + 1) (XL b i ++ [0]) hby (by rw [List.length_append, xl_len b hi (by omega), hZ]; rfl)
  rw [show decS (XL b i ++ [0]) = (mod0, 4) from if_pos (by rw [List.length_append, xl_len b hi (by omega)]; decide)] at hdy
  have hd2 : AC Tryd.prog 9 [.view (Z + 1) 1 (nums .u8 (XL b i ++ [0]))] (fun v m => v = .tup [.agg (modC mod0), .int .i64 4] /\ m = []) := hdy
  have t1 : List.take Z (XL b i) = XL b i := List.take_of_length_le (by rw [xl_len b hi (by omega), hZ]; exact Nat.le_refl _)
  have t2 : List.take (Z + 1) (XL b i ++ [0]) = XL b i ++ [0] := List.take_of_length_le (by rw [List.length_append, xl_len b hi (by omega), hZ]; exact Nat.le_refl _)
  have d2 : ∀ z : Int, z = (i : Int) -> (decide (z < (b.length : Int)) && decide (z < 16000)) = false := fun z hz => by
    subst hz
    rcases Nat.lt_or_ge i b.length with h | h
    · rw [Bool.and_eq_false_iff]; right; exact decide_eq_false (fun hh => c1 ⟨h, by omega⟩)
    · rw [Bool.and_eq_false_iff]; left; exact decide_eq_false (by omega)
  obtain ⟨B, hB⟩ : ∃ B, decide ((i : Int) < (b.length : Int)) = B := ⟨_, rfl⟩
  have d3 : B = true -> ∀ z : Int, z = (i : Int) -> decide (z < 16000) = false := fun hBt z hz => by
    have := d2 z hz
    rw [hz, hB, hBt, Bool.true_and] at this
    rw [hz]; exact this
  clear c1 hi2 hZ hl hbx hi hdx hdy d2 hby
  cases B
  · clear d3
    have nx : type_of% @hB /\ type_of% @t1 /\ type_of% @t2 /\ True := ⟨@hB, ⟨@t1, ⟨@t2, trivial⟩⟩⟩
    refine' std2f07a
    all_goals first | exact ⟨trivial, trivial⟩ | exact ⟨rfl, trivial⟩ | exact ⟨rfl, rfl⟩ | exact ⟨trivial, rfl⟩ | (exfalso; omega) | trace_state
  · have d3 := d3 rfl
    have nx : type_of% @hB /\ type_of% @d3 /\ type_of% @t1 /\ type_of% @t2 /\ True := ⟨@hB, ⟨@d3, ⟨@t1, ⟨@t2, trivial⟩⟩⟩⟩
    refine' std2f07a
    all_goals first | exact ⟨trivial, trivial⟩ | exact ⟨rfl, trivial⟩ | exact ⟨rfl, rfl⟩ | exact ⟨trivial, rfl⟩ | (exfalso; omega) | trace_state
end Go.Proofs.YtmomeejfopfchaaDoor
