/- The document's Decode. -/
import Derived.Test.YtimhmpdfioihlaaGreatDoorDP
import Derived.Test.YtimhmpdfioihlaaGreatDoorGWords
import Derived.Test.YtimhmpdfioihlaaGreatDoorGCB
import Derived.Test.YtimhmpdfioihlaaGreatDoorGRowCod
import Derived.Test.YtimhmpdfioihlaaGreatDoorGMAwake
import Derived.Test.YtimhmpdfioihlaaGreatDoorRMB
set_option linter.unusedSimpArgs false
set_option linter.unusedVariables false
set_option maxHeartbeats 12800000
namespace Go.Proofs.YtimhmpdfioihlaaGreatDoor
set_option maxRecDepth 20000
open Go Go.Abs Nat
attribute [local irreducible] AW AWL AC FW CW CWr IntKind.wrap
open MB
theorem ZBS.cl {p : Prop} (h : p := by
 first
  | refine AWL.frzG rfl rfl rfl ?_
  | refine AWL.cC (f := 54) ZEI rfl rfl rfl rfl rfl rfl (hany) ?_
 all_goals (apply_rules (newGoals := .nonDependentOnly) only [dep]; exact ())) : p := h
open ZBS ZcA Zl in
theorem ZxC (b : List Int) (hb : bytes b) (m : Mod) (e : Int) (hd : ZkU b = (m, e)) : AC Tryz.prog 14 [.view b.length 1 (Zh .u8 b)] (fun v mm => mm = [] /\ (v = .tup [.agg (Zdf m), .int .i64 e] \/ m = ZeN /\ v = .tup [.agg ZnH, .int .i64 e])) := by
 by_cases hl : b.length <= 16384
 ·have hany := ZzW hb (by omega)
  have h2 : ZmD (ZzE b) = (m, e) := (ZBi hb).trans ((Zuy hl).symm.trans hd)
  rw [h2] at hany
  have d12 : decide ((b.length : Int) > 16384) = false := Yaf (by omega)
  refine AC.enter Tryz.func14 rfl (Yaa rfl) ?_
  simp only [Tryz.f14]
  have nx := aI @d12 trivial
  refine' ZoQ
  all_goals first
   | exact ⟨trivial, .inl rfl⟩
   | exact ⟨rfl, .inl rfl⟩
 ·rw [show ZkU b = (ZeN, 4) from if_pos (by omega)] at hd
  cases hd
  have hany : True := trivial
  have d12 : decide ((b.length : Int) > 16384) = true := Yae (by omega)
  refine AC.enter Tryz.func14 rfl (Yaa rfl) ?_
  simp only [Tryz.f14]
  have nx := aI @d12 trivial
  refine' ZoQ
  all_goals first
   | exact ⟨trivial, .inr ⟨rfl, rfl⟩⟩
   | exact ⟨rfl, .inr ⟨rfl, rfl⟩⟩
   | exact ⟨trivial, .inr ⟨trivial, rfl⟩⟩
theorem ZzX (b : List Int) (hb : bytes b) : AC Tryz.prog 14 [.view b.length 1 (Zh .u8 b)] (fun v m => v = .tup [.agg (Zdf (ZkU b).1), .int .i64 (ZkU b).2] /\ m = []) := by
 obtain ⟨z, hz⟩ : ∃ z, ZkU b = z := ⟨_, rfl⟩
 rw [hz]
 obtain ⟨m, e⟩ := z
 refine (ZxC b hb m e hz).out fun v mm h => ?_
 obtain ⟨rfl, rfl | ⟨rfl, rfl⟩⟩ := h
 ·exact ⟨_, _, ⟨rfl, rfl⟩, fun _ _ _ _ ho => ho⟩
 ·exact ⟨_, _, ⟨rfl, rfl⟩, fun S w w' u ho => ho.wk (Wk.tup (.cons (Wk.agg wkZ) (WkL.refl _)))⟩
end Go.Proofs.YtimhmpdfioihlaaGreatDoor
