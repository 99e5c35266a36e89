/- Same, of one module twice. -/
import Derived.Test.YtimhmpdfioihlaaGreatDoorDP
import Derived.Test.YtimhmpdfioihlaaGreatDoorGWords
import Derived.Test.YtimhmpdfioihlaaGreatDoorGCB
import Derived.Test.YtimhmpdfioihlaaGreatDoorGMSec
set_option linter.unusedSimpArgs false
set_option linter.unusedVariables false
set_option maxHeartbeats 12800000
namespace Go.Proofs.YtimhmpdfioihlaaGreatDoor
set_option maxRecDepth 20000
open Go Go.Abs Nat
theorem ZFr : Zc Tryz.prog 57 = true := by kernel_rfl
attribute [local irreducible] AW AWL AC FW CW CWr IntKind.wrap
section
def ZDO (a : Mod) (k : Nat) : St := { n := 208, slots := [(2, .ptr 2 0), (3, .ptr 3 0), (5, .int .i64 (k : Int))], mem := [(2, ⟨false, Zdf a⟩), (3, ⟨false, Zdf a⟩)] }
def ZDP (a : Mod) (k : Nat) : St := { n := 208, slots := [(2, .ptr 2 0), (3, .ptr 3 0), (6, .int .i64 (k : Int))], mem := [(2, ⟨false, Zdf a⟩), (3, ⟨false, Zdf a⟩)] }
def ZDQ (a : Mod) (k : Nat) : St := { n := 208, slots := [(2, .ptr 2 0), (3, .ptr 3 0), (7, .int .i64 (k : Int))], mem := [(2, ⟨false, Zdf a⟩), (3, ⟨false, Zdf a⟩)] }
def ZDR (a : Mod) (k : Nat) : St := { n := 208, slots := [(2, .ptr 2 0), (3, .ptr 3 0), (8, .int .i64 (k : Int))], mem := [(2, ⟨false, Zdf a⟩), (3, ⟨false, Zdf a⟩)] }
theorem ZDS.NM : type_of% @MB.NM /\ type_of% @ZDO.eq_1 /\ type_of% @ZDP.eq_1 /\ type_of% @ZDQ.eq_1 /\ type_of% @ZDR.eq_1 /\ type_of% @Zdf.eq_1 :=
 ⟨MB.NM, @ZDO.eq_1, @ZDP.eq_1, @ZDQ.eq_1, @ZDR.eq_1, @Zdf.eq_1⟩
open ZDS
theorem Zyy.kp : type_of% (@Zs [0, 1, 2, 3, 4, 5, 6, 7, 8]) := @Zs [0, 1, 2, 3, 4, 5, 6, 7, 8]
theorem Zyy.cl {p : Prop} (h : p := by
 first
  | refine AWL.frzG rfl rfl rfl ?_
  | refine AWL.cC (f := 55) ZBY rfl rfl rfl rfl rfl rfl (ht1) ?_
  | refine AWL.cC (f := 58) ZEq rfl rfl rfl rfl rfl rfl (hc1) ?_
  | refine AWL.cC (f := 56) ZD5 rfl rfl rfl rfl rfl rfl (hl1) ?_
  | refine AWL.cC (f := 56) ZD5 rfl rfl rfl rfl rfl rfl (hl2) ?_
  | refine AWL.cC (f := 57) ZFr rfl rfl rfl rfl rfl rfl (hs1) ?_
  | refine AWL.cC (f := 59) ZEJ rfl rfl rfl rfl rfl rfl (hr1) ?_
 all_goals (apply_rules (newGoals := .nonDependentOnly) only [dep]; exact ())) : p := h
open Zyy Ztb in
theorem ZzL (a : Mod) (ha : SmM a) : AC Tryz.prog 15 [.agg (Zdf a), .agg (Zdf a)] (fun r m => r = .bool true /\ m = []) := by
 have ht1 := ZdD a.funcs ha.fu
 have hl1 := ZuA a.tables ha.ta
 have hl2 := ZuA a.mems ha.me
 have hr1 := Zxs a ha
 unfold Zdf at hr1
 have hc1 : True := trivial
 have hs1 : True := trivial
 refine AC.enter Tryz.func15 rfl (Yaa rfl) ?_
 simp only [Tryz.f15]
 have nx := trivial
 refine' Ze8
 refine AW.loop [2, 3, 5] [2, 3] (fun m st => ∃ k : Nat, st = ZDO a k /\ k <= a.types.length /\ m = a.types.length - k) ?_ ?_
 ·exact ⟨_, 0, rfl, Nat.zero_le _, rfl⟩
 rintro m st ⟨k, rfl, hk, rfl⟩
 by_cases hkl : k < a.types.length
 ·have e7 : IntKind.i64.wrap ((k : Int) + 1) = ((k + 1 : Nat) : Int) := Zb _ (by have := ha.ty; omega) (by have := ha.ty; omega)
  have hd1 : decide ((k : Int) < (a.types.length : Int)) = true := Yae (by omega)
  have l1 := ZgA Zfg ⟨[], []⟩ hkl
  have r1 := ZgB Zfg ⟨[], []⟩ hkl
  have hx := ha.tys _ (Zi9 ⟨[], []⟩ hkl)
  generalize a.types.getD k ⟨[], []⟩ = x at l1 hx
  have hs1 := ZzK x hx.1 hx.2
  obtain ⟨i, o⟩ := x
  have l1 : List.take 2 (List.drop (k * 2) (a.types.flatMap ZfV)) = [.view i.length 1 (Zh .i64 i), .view o.length 1 (Zh .i64 o)] := l1
  unfold ZfV at hs1
  have nx := aI @e7 (aI @hd1 (aI @l1 trivial))
  refine' Ze8
  all_goals first
   | exact ⟨a.types.length - (k + 1), by omega, k + 1, rfl, by omega, rfl⟩
 have hd1 : decide ((k : Int) < (a.types.length : Int)) = false := Yaf (by omega)
 have nx := aI @hd1 trivial
 refine' Ze8
 clear hd1 hkl hk
 refine AW.loop [2, 3, 6] [2, 3] (fun m st => ∃ k : Nat, st = ZDP a k /\ k <= a.imports.length /\ m = a.imports.length - k) ?_ ?_
 ·exact ⟨_, 0, rfl, Nat.zero_le _, rfl⟩
 rintro m st ⟨k, rfl, hk, rfl⟩
 by_cases hkl : k < a.imports.length
 ·have e7 : IntKind.i64.wrap ((k : Int) + 1) = ((k + 1 : Nat) : Int) := Zb _ (by have := ha.im; omega) (by have := ha.im; omega)
  have hd1 : decide ((k : Int) < (a.imports.length : Int)) = true := Yae (by omega)
  have l1 := ZgA Zfh ⟨[], [], 0⟩ hkl
  have r1 := ZgB Zfh ⟨[], [], 0⟩ hkl
  generalize a.imports.getD k ⟨[], [], 0⟩ = x at l1
  obtain ⟨i, o, t⟩ := x
  have l1 : List.take 3 (List.drop (k * 3) (a.imports.flatMap Zhp)) = [.str i, .str o, .int .i64 t] := l1
  have nx := aI @e7 (aI @hd1 (aI @l1 (aI @ZgQ (aI @Ze4 (aI @ZgR (aI @ZgS (aI @Ya4.{0} (aI @Bool.and_self (aI @Bool.not_true trivial)))))))))
  refine' Zkk
  all_goals first
   | exact ⟨a.imports.length - (k + 1), by omega, k + 1, rfl, by omega, rfl⟩
 have hd1 : decide ((k : Int) < (a.imports.length : Int)) = false := Yaf (by omega)
 have nx := aI @hd1 trivial
 refine' Ze8
 clear hd1 hkl hk
 refine AW.loop [2, 3, 7] [2, 3] (fun m st => ∃ k : Nat, st = ZDQ a k /\ k <= a.globals.length /\ m = a.globals.length - k) ?_ ?_
 ·exact ⟨_, 0, rfl, Nat.zero_le _, rfl⟩
 rintro m st ⟨k, rfl, hk, rfl⟩
 by_cases hkl : k < a.globals.length
 ·have e7 : IntKind.i64.wrap ((k : Int) + 1) = ((k + 1 : Nat) : Int) := Zb _ (by have := ha.gl; omega) (by have := ha.gl; omega)
  have hd1 : decide ((k : Int) < (a.globals.length : Int)) = true := Yae (by omega)
  have l1 := Zc2 ZeQ ⟨0, false, []⟩ a.globals k hkl
  have hx := ha.gls _ (Zi9 ⟨0, false, []⟩ hkl)
  generalize (a.globals.drop (k + 1)).flatMap Zcd = R at l1
  generalize a.globals.getD k ⟨0, false, []⟩ = x at l1 hx
  obtain ⟨t, mu, c⟩ := x
  have l1 : List.drop (k * 3) (a.globals.flatMap Zcd) = .int .i64 t :: .bool mu :: .view c.length 6 (Zah c) :: R := l1
  have hc1 := ZgC c hx
  have nx := aI @e7 (aI @hd1 (aI @l1 (aI @Ya4.{0} (aI @Bool.not_true trivial))))
  refine' Zkk
  all_goals first
   | exact ⟨a.globals.length - (k + 1), by omega, k + 1, rfl, by omega, rfl⟩
 have hd1 : decide ((k : Int) < (a.globals.length : Int)) = false := Yaf (by omega)
 have nx := aI @hd1 trivial
 refine' Ze8
 clear hd1 hkl hk
 refine AW.loop [2, 3, 8] [2, 3] (fun m st => ∃ k : Nat, st = ZDR a k /\ k <= a.exports.length /\ m = a.exports.length - k) ?_ ?_
 ·exact ⟨_, 0, rfl, Nat.zero_le _, rfl⟩
 rintro m st ⟨k, rfl, hk, rfl⟩
 by_cases hkl : k < a.exports.length
 ·have e7 : IntKind.i64.wrap ((k : Int) + 1) = ((k + 1 : Nat) : Int) := Zb _ (by have := ha.ex; omega) (by have := ha.ex; omega)
  have hd1 : decide ((k : Int) < (a.exports.length : Int)) = true := Yae (by omega)
  have l1 := ZgA Zfi ⟨[], 0, 0⟩ hkl
  have r1 := ZgB Zfi ⟨[], 0, 0⟩ hkl
  generalize a.exports.getD k ⟨[], 0, 0⟩ = x at l1
  obtain ⟨i, o, t⟩ := x
  have l1 : List.take 3 (List.drop (k * 3) (a.exports.flatMap Zhq)) = [.str i, .int .i64 o, .int .i64 t] := l1
  have nx := aI @e7 (aI @hd1 (aI @l1 (aI @ZgQ (aI @Ze4 (aI @ZgR (aI @ZgS (aI @Ya4.{0} (aI @Bool.and_self (aI @Bool.not_true trivial)))))))))
  refine' Zkk
  all_goals first
   | exact ⟨a.exports.length - (k + 1), by omega, k + 1, rfl, by omega, rfl⟩
 have hd1 : decide ((k : Int) < (a.exports.length : Int)) = false := Yaf (by omega)
 have nx := aI @hd1 trivial
 refine' Ze8
 all_goals first | exact ⟨trivial, trivial⟩ | exact ⟨rfl, trivial⟩ | exact ⟨rfl, rfl⟩ | exact ⟨trivial, rfl⟩ | (exfalso; omega) | trace_state
end
end Go.Proofs.YtimhmpdfioihlaaGreatDoor
