/- ExprReads. -/
import Derived.Test.YteppkbaeacndiaaDP
import Derived.Test.YteppkbaeacndiaaDB
import Derived.Test.YteppkbaeacndiaaDC
import Derived.Test.YteppkbaeacndiaaGCB
import Derived.Test.YteppkbaeacndiaaGArgs
import Derived.Test.YteppkbaeacndiaaXR5
import Derived.Test.YteppkbaeacndiaaGWP
set_option linter.unusedSimpArgs false
set_option linter.unusedVariables false
namespace Go.Proofs.Yteppkbaeacndiaa
set_option maxRecDepth 20000
open Go Go.Abs Nat
attribute [local irreducible] AW AWL AC FW CW CWr IntKind.wrap
theorem MLReads.NM : type_of% @NSX /\ type_of% @St.keepS.eq_1 /\ type_of% @TY /\ type_of% @SLS /\ type_of% @nums_length :=
  ⟨NSX, St.keepS.eq_1, @TY, @SLS, @nums_length⟩
open MLReads
theorem K1LReads.kp {P : Program} {c : Code} {Q : Exit -> St -> Prop} {st : St} (h : AW P c Q (st.keepS [0, 1, 4, 5, 6, 7, 8, 9, 10])) : AW P c Q st := AW.keepS _ h
theorem K1LReads.cl {p : Prop} (h : p := by
  first
    | refine AWL.frzG rfl rfl rfl ?_
    | refine AWL.cC (f := 9) cb9 rfl rfl rfl rfl rfl rfl (awake_ok) ?_
    | refine AWL.cC (f := 10) cb10 rfl rfl rfl rfl rfl rfl (hr1) ?_
    | refine AWL.cC (f := 11) cb11 rfl rfl rfl rfl rfl rfl (hr2) ?_
    | refine AWL.cC (f := 12) cb12 rfl rfl rfl rfl rfl rfl (hsm) ?_
  all_goals (apply_rules (newGoals := .nonDependentOnly) only [dep])
  all_goals constructor) : p := h
theorem K1LReads.sd {p : Prop} (h : p := by first | exact sd1eb496) : p := h
open K1LReads in
set_option maxHeartbeats 3200000 in
theorem exprReads_ok (b : List Int) (hb : bytes b) (hlen : b.length <= 1048576) (p : Int) : AC Try.prog 3 [.view b.length 1 (nums .u8 b), .int .i64 p] (fun r m => r = .bool true /\ m = []) := by
  have hr1 := eread_ok b hb (by omega) p
  have hr2 := rread_ok b hb (by omega) p
  obtain ⟨h1, h2⟩ := readS_small hb (by omega) p
  generalize readS b p = z at hr1 hr2 h1 h2
  obtain ⟨c, to, e⟩ := z
  simp only at hr1 hr2 h1 h2
  have hsm := same_ok c c (by omega) (by omega) (fun i hi => by have := h2 i hi; omega) (fun i hi => by have := h2 i hi; omega)
  rw [decide_eq_true rfl] at hsm
  refine AC.enter Try.func3 rfl (Nat.le_of_ble_eq_true rfl) ?_
  simp only [Try.f3]
  have nx : type_of% @beq_self_eq_true.{0} /\ True := ⟨@beq_self_eq_true.{0}, trivial⟩
  refine' st1a0eb4
  all_goals first | exact ⟨trivial, trivial⟩ | exact ⟨rfl, trivial⟩ | exact ⟨rfl, rfl⟩ | exact ⟨trivial, rfl⟩ | (exfalso; omega) | trace_state
end Go.Proofs.Yteppkbaeacndiaa
