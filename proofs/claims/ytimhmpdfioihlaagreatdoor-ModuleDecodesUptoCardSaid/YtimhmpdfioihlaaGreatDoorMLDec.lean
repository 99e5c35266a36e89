/- ModuleDecodes. -/
import Derived.Test.YtimhmpdfioihlaaGreatDoorDP
import Derived.Test.YtimhmpdfioihlaaGreatDoorGWords
import Derived.Test.YtimhmpdfioihlaaGreatDoorGCB
import Derived.Test.YtimhmpdfioihlaaGreatDoorGMAwake
import Derived.Test.YtimhmpdfioihlaaGreatDoorRDec
import Derived.Test.YtimhmpdfioihlaaGreatDoorSMod
set_option linter.unusedSimpArgs false
set_option linter.unusedVariables false
set_option maxHeartbeats 12800000
namespace Go.Proofs.YtimhmpdfioihlaaGreatDoor
set_option maxRecDepth 20000
open Go Go.Abs Nat
attribute [local irreducible] AW AWL AC FW CW CWr IntKind.wrap
section
theorem ZBT.NM : type_of% @MB.NM /\ type_of% @Zdf.eq_1 /\ type_of% @ZnH.eq_1 :=
 ⟨MB.NM, @Zdf.eq_1, @ZnH.eq_1⟩
open ZBT
theorem ZuO.kp : type_of% (@Zs [0, 2, 3, 4, 5, 6]) := @Zs [0, 2, 3, 4, 5, 6]
theorem ZuO.cl {p : Prop} (h : p := by
 first
  | refine AWL.frzG rfl rfl rfl ?_
  | refine AWL.cC (f := 12) ZED rfl rfl rfl rfl rfl rfl (Zxu) ?_
  | refine AWL.cC (f := 13) ZBW rfl rfl rfl rfl rfl rfl (hd1) ?_
  | refine AWL.cC (f := 14) ZEE rfl rfl rfl rfl rfl rfl (hd2) ?_
  | refine AWL.cC (f := 15) ZEF rfl rfl rfl rfl rfl rfl (hs0) ?_
 all_goals (apply_rules (newGoals := .nonDependentOnly) only [dep]; exact ())) : p := h
open ZuO Zl in
theorem ZnT (b : List Int) (hb : bytes b) : AC Tryz.prog 4 [.view b.length 1 (Zh .u8 b)] (fun r m => r = .bool true /\ m = []) := by
 have hd1 := ZpI b hb
 have hd2 := ZzX b hb
 have hs0 := ZzL (ZkU b).1 (ZBn hb)
 generalize (ZkU b).1 = md at hd1 hd2 hs0
 generalize (ZkU b).2 = e at hd1 hd2
 unfold Zdf at hs0
 have d1 : (e == e) = true := Ya4 e
 refine AC.enter Tryz.func4 rfl (Yaa rfl) ?_
 simp only [Tryz.f4]
 have nx := aI @d1 trivial
 refine' Zo4
 all_goals first | exact ⟨trivial, trivial⟩ | exact ⟨rfl, trivial⟩ | exact ⟨rfl, rfl⟩ | exact ⟨trivial, rfl⟩ | (exfalso; omega) | trace_state
end
end Go.Proofs.YtimhmpdfioihlaaGreatDoor
