/- ExprBack. -/
import Derived.Test.YteppkbaeacndiaaDP
import Derived.Test.YteppkbaeacndiaaDB
import Derived.Test.YteppkbaeacndiaaGCB
import Derived.Test.YteppkbaeacndiaaGArgs
import Derived.Test.YteppkbaeacndiaaGWP
set_option linter.unusedSimpArgs false
set_option linter.unusedVariables false
namespace Go.Proofs.Yteppkbaeacndiaa
set_option maxRecDepth 20000
open Go Go.Abs Nat
attribute [local irreducible] AW AWL AC FW CW CWr IntKind.wrap
theorem MLBack.NM : type_of% @NSX /\ type_of% @St.keepS.eq_1 /\ type_of% @TY /\ type_of% @SLS /\ type_of% @nums_length :=
  ⟨NSX, St.keepS.eq_1, @TY, @SLS, @nums_length⟩
open MLBack
theorem K1LBack.kp {P : Program} {c : Code} {Q : Exit -> St -> Prop} {st : St} (h : AW P c Q (st.keepS [0, 1, 2, 6, 7, 8, 9, 10, 11, 12, 13, 14, 15])) : AW P c Q st := AW.keepS _ h
theorem K1LBack.cl {p : Prop} (h : p := by
  first
    | refine AWL.frzG rfl rfl rfl ?_
    | refine AWL.cC (f := 9) cb9 rfl rfl rfl rfl rfl rfl (awake_ok) ?_
    | refine AWL.cC (f := 13) cb13 rfl rfl rfl rfl rfl rfl (hw) ?_
    | refine AWL.cC (f := 10) cb10 rfl rfl rfl rfl rfl rfl (hr1) ?_
    | refine AWL.cC (f := 10) cb10 rfl rfl rfl rfl rfl rfl (hr2) ?_
    | refine AWL.cC (f := 12) cb12 rfl rfl rfl rfl rfl rfl (hsm) ?_
  all_goals (apply_rules (newGoals := .nonDependentOnly) only [dep])
  all_goals constructor) : p := h
theorem K1LBack.sd {p : Prop} (h : p := by first | exact sd1eb496) : p := h
open K1LBack in
set_option maxHeartbeats 6400000 in
theorem exprBack_ok (code : List Ins) (hi : ∀ i ∈ code, okIns i) (hz : szC code <= 1048576) (bs : List Int) (hb : bytes bs) (hx : bs.length <= 1048576) (cut : Int) :
    AC Try.prog 5 [.view code.length 6 (codeC code), .view bs.length 1 (nums .u8 bs), .int .i64 cut] (fun r m => r = .bool true /\ m = []) := by
  have hl := szC_len code
  have hbl := bytP_le hi
  have hw := ewrite_ok code hi (by omega) (by omega)
  have hby := writeS_bytes hi
  have hle := writeS_le hi
  have hr1 : True := trivial
  have hr2 : True := trivial
  have hsm : True := trivial
  refine AC.enter Try.func5 rfl (Nat.le_of_ble_eq_true rfl) ?_
  simp only [Try.f5]
  by_cases h : (writeS code).2 = 0
  · have hne := writeS_ne h
    have hbk := readS_back hi hb hb h
    have hsh := fun k hk => readS_short hi h (by omega) (k := k) hk
    generalize writeS code = z at hw hby hle h hne hbk hsh
    obtain ⟨b, e⟩ := z
    simp only at hw hby hle h hne hbk hsh
    subst h
    have hpos : 0 < b.length := List.length_pos_iff.2 hne
    have hr1 := eread_ok (bs ++ b ++ bs) (bytes_app (bytes_app hb hby) hb) (by simp only [List.length_append]; omega) bs.length
    rw [hbk] at hr1
    have hlen3 : (bs ++ b ++ bs).length = bs.length + b.length + bs.length := by simp only [List.length_append]
    have e1 : IntKind.u64.wrap (b.length : Int) = b.length := wrap_in rfl (by omega) (by show _ < (18446744073709551616 : Int); omega)
    have e2 : IntKind.u64.wrap cut = cut % 18446744073709551616 := wrap_unsigned (k := .u64) rfl _
    rw [hlen3] at hr1
    have hT : (bs ++ b ++ bs).take (bs.length + b.length + bs.length) = bs ++ b ++ bs := List.take_of_length_le (by omega)
    obtain ⟨k, e3, hkb⟩ : ∃ k : Nat, IntKind.i64.wrap ((cut % 18446744073709551616).tmod (b.length : Int)) = (k : Int) /\ k < b.length := by
      have g1 : (cut % 18446744073709551616).tmod (b.length : Int) = (cut % 18446744073709551616) % (b.length : Int) := Int.tmod_eq_emod_of_nonneg (by omega)
      have g2 := Int.emod_lt_of_pos (cut % 18446744073709551616) (b := (b.length : Int)) (by omega)
      have g3 := Int.emod_nonneg (cut % 18446744073709551616) (b := (b.length : Int)) (by omega)
      refine ⟨((cut % 18446744073709551616) % (b.length : Int)).toNat, ?_, by omega⟩
      rw [g1, wrap64_id _ (by omega) (by omega), Int.toNat_of_nonneg g3]
    have hr2 := eread_ok (b.take k) (bytes_take hby k) (by rw [List.length_take]; omega) 0
    rw [hsh k hkb, List.length_take, Nat.min_eq_left (Nat.le_of_lt hkb)] at hr2
    have hsm := same_ok code code (by omega) (by omega) (fun i hj => by have := (hi i hj).n; omega) (fun i hj => by have := (hi i hj).n; omega)
    rw [decide_eq_true rfl] at hsm
    have e4 : IntKind.i64.wrap ((bs.length : Int) + (b.length : Int)) = (bs.length : Int) + (b.length : Int) := wrap64_id _ (by omega) (by omega)
    have nx : type_of% @e1 /\ type_of% @e2 /\ type_of% @hT /\ type_of% @e3 /\ type_of% @e4 /\ type_of% @Int.toNat_natCast /\ type_of% @beq_self_eq_true.{0} /\ True := ⟨@e1, ⟨@e2, ⟨@hT, ⟨@e3, ⟨@e4, ⟨@Int.toNat_natCast, ⟨@beq_self_eq_true.{0}, trivial⟩⟩⟩⟩⟩⟩⟩
    refine' st1a0eb4
    all_goals first | exact ⟨trivial, trivial⟩ | exact ⟨rfl, trivial⟩ | exact ⟨rfl, rfl⟩ | exact ⟨trivial, rfl⟩ | (exfalso; omega) | trace_state
  · have hh := writeS_err h
    rw [hh] at hw
    have nx : True := trivial
    refine' st1a0eb4
    all_goals first | exact ⟨trivial, trivial⟩ | exact ⟨rfl, trivial⟩ | exact ⟨rfl, rfl⟩ | exact ⟨trivial, rfl⟩ | (exfalso; omega) | trace_state
end Go.Proofs.Yteppkbaeacndiaa
