/- ExprWrites. -/
import Derived.Test.YteppkbaeacndiaaDP
import Derived.Test.YteppkbaeacndiaaDB
import Derived.Test.YteppkbaeacndiaaDC
import Derived.Test.YteppkbaeacndiaaGCB
import Derived.Test.YteppkbaeacndiaaGArgw
import Derived.Test.YteppkbaeacndiaaGRW2
set_option linter.unusedSimpArgs false
set_option linter.unusedVariables false
namespace Go.Proofs.Yteppkbaeacndiaa
set_option maxRecDepth 20000
open Go Go.Abs Nat
attribute [local irreducible] AW AWL AC FW CW CWr IntKind.wrap
theorem MLWrites.NM : type_of% @NSX /\ type_of% @St.keepS.eq_1 /\ type_of% @TY /\ type_of% @SLS /\ type_of% @nums_length :=
  ⟨NSX, St.keepS.eq_1, @TY, @SLS, @nums_length⟩
open MLWrites
theorem K1LWrites.kp {P : Program} {c : Code} {Q : Exit -> St -> Prop} {st : St} (h : AW P c Q (st.keepS [0, 2, 3, 4, 5, 6])) : AW P c Q st := AW.keepS _ h
theorem K1LWrites.cl {p : Prop} (h : p := by
  first
    | refine AWL.frzG rfl rfl rfl ?_
    | refine AWL.cC (f := 9) cb9 rfl rfl rfl rfl rfl rfl (awake_ok) ?_
    | refine AWL.cC (f := 13) cb13 rfl rfl rfl rfl rfl rfl (hw1) ?_
    | refine AWL.cC (f := 14) cb14 rfl rfl rfl rfl rfl rfl (hw2) ?_
  all_goals (apply_rules (newGoals := .nonDependentOnly) only [dep])
  all_goals constructor) : p := h
theorem K1LWrites.sd {p : Prop} (h : p := by first | exact sd3e4394) : p := h
open K1LWrites in
set_option maxHeartbeats 3200000 in
theorem exprWrites_ok (code : List Ins) (hi : ∀ i ∈ code, okIns i) (hz : szC code <= 1048576) : AC Try.prog 4 [.view code.length 6 (codeC code)] (fun r m => r = .bool true /\ m = []) := by
  have hl := szC_len code
  have hbl := bytP_le hi
  have hw1 := ewrite_ok code hi (by omega) (by omega)
  have hw2 := rwrite_ok code hi (by omega)
  have hby := writeS_bytes hi
  generalize writeS code = z at hw1 hw2 hby
  obtain ⟨b, e⟩ := z
  simp only at hw1 hw2 hby
  refine AC.enter Try.func4 rfl (Nat.le_of_ble_eq_true rfl) ?_
  simp only [Try.f4]
  have nx : type_of% @beq_self_eq_true.{0} /\ True := ⟨@beq_self_eq_true.{0}, trivial⟩
  refine' st1a0eb4
  all_goals first | exact ⟨trivial, trivial⟩ | exact ⟨rfl, trivial⟩ | exact ⟨rfl, rfl⟩ | exact ⟨trivial, rfl⟩ | (exfalso; omega) | trace_state
end Go.Proofs.Yteppkbaeacndiaa
