/- sameLimits, of one list twice. -/
import Derived.Test.YtimhmpdfioihlaaGreatDoorDP
import Derived.Test.YtimhmpdfioihlaaGreatDoorGWords
import Derived.Test.YtimhmpdfioihlaaGreatDoorGCB
import Derived.Test.YtimhmpdfioihlaaGreatDoorGRowCod
import Derived.Test.YtimhmpdfioihlaaGreatDoorRowData
import Derived.Test.YtimhmpdfioihlaaGreatDoorGMCode
import Derived.Test.YtimhmpdfioihlaaGreatDoorGRMP
import Derived.Test.YtimhmpdfioihlaaGreatDoorGXP
import Derived.Test.YtimhmpdfioihlaaGreatDoorXR1
set_option linter.unusedSimpArgs false
set_option linter.unusedVariables false
set_option maxHeartbeats 12800000
namespace Go.Proofs.YtimhmpdfioihlaaGreatDoor
set_option maxRecDepth 20000
open Go Go.Abs Nat
theorem ZEq : Zc Tryz.prog 58 = true := by kernel_rfl
attribute [local irreducible] AW AWL AC FW CW CWr IntKind.wrap
section
theorem ZgQ : eqL [] [] = true := rfl
theorem Ze4 (a b : V) (la lb : List V) : eqL (a :: la) (b :: lb) = (eqS a b && eqL la lb) := rfl
theorem ZgR (k k' : IntKind) (a b : Int) : eqS (.int k a) (.int k' b) = (a == b) := rfl
theorem ZgS (a b : List UInt8) : eqS (.str a) (.str b) = (a == b) := rfl
theorem Zc2 {α : Type} {f : α -> List V} {c : Nat} (hf : ∀ x, (f x).length = c) (d : α) : ∀ (l : List α) (k : Nat), k < l.length -> List.drop (k * c) (l.flatMap f) = f (l.getD k d) ++ (l.drop (k + 1)).flatMap f
 | [], k, h => by simp at h
 | x :: l, 0, _ => by simp
 | x :: l, k + 1, h => by
   rw [List.flatMap_cons, show (k + 1) * c = (f x).length + k * c by rw [hf, Nat.succ_mul]; omega, List.drop_append, Ya7 (by omega), List.nil_append, Nat.add_sub_cancel_left, Zc2 hf d l k (by simp at h; omega)]
   rfl
theorem ZgA {α : Type} {f : α -> List V} {c : Nat} (hf : ∀ x, (f x).length = c) (d : α) {l : List α} {k : Nat} (h : k < l.length) : List.take c (List.drop (k * c) (l.flatMap f)) = f (l.getD k d) := by
 rw [Zc2 hf d l k h, List.take_append_of_le_length (by rw [hf]; exact Nat.le_refl _), Yad (by rw [hf]; exact Nat.le_refl _)]
theorem ZgB {α : Type} {f : α -> List V} {c : Nat} (hf : ∀ x, (f x).length = c) (d : α) {l : List α} {k : Nat} (h : k < l.length) : c <= (List.drop (k * c) (l.flatMap f)).length := by
 rw [Zc2 hf d l k h, Yal, hf]; omega
theorem Zi9 {α : Type} {l : List α} {k : Nat} (d : α) (h : k < l.length) : l.getD k d ∈ l := by
 rw [Yah, Yab h]; exact List.getElem_mem h
def G23 (l : List (Int × Int)) (k : Nat) : St := { n := 26, slots := [(0, .view l.length 2 (l.flatMap Zc3)), (1, .view l.length 2 (l.flatMap Zc3)), (5, .int .i64 (k : Int))], mem := [] }
theorem ZDK.NM : type_of% @MB.NM /\ type_of% @G23.eq_1 :=
 ⟨MB.NM, @G23.eq_1⟩
open ZDK
open ZfK Ztb in
theorem ZuA (l : List (Int × Int)) (hl : l.length <= 1000000000000) : AC Tryz.prog 56 [.view l.length 2 (l.flatMap Zc3), .view l.length 2 (l.flatMap Zc3)] (fun r m => r = .bool true /\ m = []) := by
 refine AC.enter Tryz.func56 rfl (Yaa rfl) ?_
 simp only [Tryz.f56]
 have nx := trivial
 refine' Zkn
 refine AW.loop [0, 1, 5] [] (fun m st => ∃ k : Nat, st = G23 l k /\ k <= l.length /\ m = l.length - k) ?_ ?_
 ·exact ⟨_, 0, rfl, Nat.zero_le _, rfl⟩
 rintro m st ⟨k, rfl, hk, rfl⟩
 by_cases hkl : k < l.length
 ·have e7 : IntKind.i64.wrap ((k : Int) + 1) = ((k + 1 : Nat) : Int) := Zb _ (by omega) (by omega)
  have hd1 : decide ((k : Int) < (l.length : Int)) = true := Yae (by omega)
  have l1 := ZgA Zde (0, 0) hkl
  have r1 := ZgB Zde (0, 0) hkl
  generalize l.getD k (0, 0) = x at l1
  obtain ⟨x1, x2⟩ := x
  have l1 : List.take 2 (List.drop (k * 2) (l.flatMap Zc3)) = [.int .i64 x1, .int .i64 x2] := l1
  have nx := aI @e7 (aI @hd1 (aI @l1 (aI @ZgQ (aI @Ze4 (aI @ZgR (aI @ZgS (aI @Ya4.{0} (aI @Bool.and_self (aI @Bool.not_true trivial)))))))))
  refine' Zkn
  all_goals first
   | exact ⟨l.length - (k + 1), by omega, k + 1, rfl, by omega, rfl⟩
 ·have hd1 : decide ((k : Int) < (l.length : Int)) = false := Yaf (by omega)
  have nx := aI @hd1 trivial
  refine' Zkn
  all_goals first | exact ⟨trivial, trivial⟩ | exact ⟨rfl, trivial⟩ | exact ⟨rfl, rfl⟩ | exact ⟨trivial, rfl⟩ | (exfalso; omega) | trace_state
end
end Go.Proofs.YtimhmpdfioihlaaGreatDoor
namespace Go.Proofs.YtimhmpdfioihlaaGreatDoor
set_option maxRecDepth 20000
open Go Go.Abs
def mdC (k : Nat) (m : Mod) : List V := [.ref k 0 m.types.length 2, .ref (k + 1) 0 m.imports.length 3, .ref (k + 2) 0 m.funcs.length 1, .ref (k + 3) 0 m.tables.length 2, .ref (k + 4) 0 m.mems.length 2, .ref (k + 5) 0 m.globals.length 3, .ref (k + 6) 0 m.exports.length 3, .int .i64 m.start, .ref (k + 8) 0 m.elems.length 2, .ref (k + 9) 0 m.codes.length 2, .ref (k + 10) 0 m.datas.length 2]
def mdL (k : Nat) (m : Mod) : Mem := [(k, ⟨true, m.types.flatMap ZfV⟩), (k + 1, ⟨true, m.imports.flatMap Zhp⟩), (k + 2, ⟨true, Zh .i64 m.funcs⟩), (k + 3, ⟨true, m.tables.flatMap Zc3⟩), (k + 4, ⟨true, m.mems.flatMap Zc3⟩), (k + 5, ⟨true, m.globals.flatMap Zcd⟩), (k + 6, ⟨true, m.exports.flatMap Zhq⟩), (k + 8, ⟨true, m.elems.flatMap Zce⟩), (k + 9, ⟨true, m.codes.flatMap ZgE⟩), (k + 10, ⟨true, m.datas.flatMap Zcf⟩)]
def SLm : TypeId -> List (Nat × Nat) := fun t => if t = 32 then [(0, 2), (1, 3), (2, 1), (3, 2), (4, 2), (5, 3), (6, 3), (8, 2), (9, 2), (10, 2)] else SL t
theorem ZEs : SLm 2 = [] /\ SLm 3 = [] /\ SLm 4 = [] /\ SLm 5 = [] /\ SLm 9 = [] /\ SLm 12 = [] /\ SLm 20 = [] /\ SLm 22 = [] /\ SLm 23 = [] /\ SLm 24 = [(0, 1)] /\ SLm 25 = [] /\ SLm 26 = [] /\ SLm 27 = [] /\ SLm 28 = [] /\ SLm 29 = [] /\ SLm 30 = [] /\ SLm 32 = [(0, 2), (1, 3), (2, 1), (3, 2), (4, 2), (5, 3), (6, 3), (8, 2), (9, 2), (10, 2)] /\ SLm 34 = [] /\ SLm 35 = [] /\ SLm 44 = [] /\ SLm 45 = [] /\ SLm 47 = [] /\ SLm 48 = [] /\ SLm 50 = [(5, 1)] /\ SLm 51 = [] /\ SLm 53 = [(0, 1)] /\ SLm 55 = [] /\ SLm 57 = [] /\ SLm 59 = [] /\ SLm 62 = [] /\ SLm 64 = [] /\ SLm 77 = [] /\ SLm 82 = [] /\ SLm 96 = [] /\ SLm 98 = [] /\ SLm 100 = [] /\ SLm 140 = [] /\ SLm 142 = [] /\ SLm 147 = [] /\ SLm 148 = [] /\ SLm 152 = [] /\ SLm 169 = [(3, 1), (4, 1)] /\ SLm 179 = [] /\ SLm 182 = [] /\ SLm 183 = [] /\ SLm 185 = [] /\ SLm 188 = [] /\ SLm 192 = [] /\ SLm 194 = [(2, 1)] /\ SLm 209 = [] /\ SLm 216 = [] /\ SLm 221 = [] := ⟨rfl, rfl, rfl, rfl, rfl, rfl, rfl, rfl, rfl, rfl, rfl, rfl, rfl, rfl, rfl, rfl, rfl, rfl, rfl, rfl, rfl, rfl, rfl, rfl, rfl, rfl, rfl, rfl, rfl, rfl, rfl, rfl, rfl, rfl, rfl, rfl, rfl, rfl, rfl, rfl, rfl, rfl, rfl, rfl, rfl, rfl, rfl, rfl, rfl, rfl, rfl, rfl⟩
end Go.Proofs.YtimhmpdfioihlaaGreatDoor
namespace Go.Proofs.YtimhmpdfioihlaaGreatDoor
set_option maxRecDepth 20000
open Go Go.Abs Nat
attribute [local irreducible] AW AWL AC FW CW CWr IntKind.wrap
section
theorem ZgC (c : List Ins) (h : SmC c) : AC Tryz.prog 58 [.view c.length 6 (Zah c), .view c.length 6 (Zah c)] (fun r m => r = .bool true /\ m = []) := by
 have := Zzx c c h.n h.n h.l h.l
 rwa [Yae rfl] at this
def ZDL (a : Mod) (k : Nat) : St := { n := 120, slots := [(2, .ptr 2 0), (3, .ptr 3 0), (5, .int .i64 (k : Int))], mem := [(2, ⟨false, Zdf a⟩), (3, ⟨false, Zdf a⟩)] }
def ZDM (a : Mod) (k : Nat) : St := { n := 120, slots := [(2, .ptr 2 0), (3, .ptr 3 0), (6, .int .i64 (k : Int))], mem := [(2, ⟨false, Zdf a⟩), (3, ⟨false, Zdf a⟩)] }
def ZDN (a : Mod) (k : Nat) : St := { n := 120, slots := [(2, .ptr 2 0), (3, .ptr 3 0), (7, .int .i64 (k : Int))], mem := [(2, ⟨false, Zdf a⟩), (3, ⟨false, Zdf a⟩)] }
theorem ZBq.NM : type_of% @MB.NM /\ type_of% @ZDL.eq_1 /\ type_of% @ZDM.eq_1 /\ type_of% @ZDN.eq_1 /\ type_of% @Zdf.eq_1 :=
 ⟨MB.NM, @ZDL.eq_1, @ZDM.eq_1, @ZDN.eq_1, @Zdf.eq_1⟩
open ZBq
theorem ZnO.kp : type_of% (@Zs [0, 1, 2, 3, 4, 5, 6, 7]) := @Zs [0, 1, 2, 3, 4, 5, 6, 7]
theorem ZnO.cl {p : Prop} (h : p := by
 first
  | refine AWL.frzG rfl rfl rfl ?_
  | refine AWL.cC (f := 55) ZBY rfl rfl rfl rfl rfl rfl (ht1) ?_
  | refine AWL.cC (f := 58) ZEq rfl rfl rfl rfl rfl rfl (hc1) ?_
 all_goals (apply_rules (newGoals := .nonDependentOnly) only [dep]; exact ())) : p := h
theorem ZnO.sd {p : Prop} (h : p := by first | exact Zvu) : p := h
open ZnO in
theorem Zxs (a : Mod) (ha : SmM a) : AC Tryz.prog 59 [.agg (Zdf a), .agg (Zdf a)] (fun r m => r = .bool true /\ m = []) := by
 have ht1 : True := trivial
 have hc1 : True := trivial
 refine AC.enter Tryz.func59 rfl (Yaa rfl) ?_
 simp only [Tryz.f59]
 have nx := trivial
 refine' Zfb
 refine AW.loop [2, 3, 5] [2, 3] (fun m st => ∃ k : Nat, st = ZDL a k /\ k <= a.elems.length /\ m = a.elems.length - k) ?_ ?_
 ·exact ⟨_, 0, rfl, Nat.zero_le _, rfl⟩
 rintro m st ⟨k, rfl, hk, rfl⟩
 by_cases hkl : k < a.elems.length
 ·have e7 : IntKind.i64.wrap ((k : Int) + 1) = ((k + 1 : Nat) : Int) := Zb _ (by have := ha.el; omega) (by have := ha.el; omega)
  have hd1 : decide ((k : Int) < (a.elems.length : Int)) = true := Yae (by omega)
  have l1 := Zc2 ZeR ⟨[], []⟩ a.elems k hkl
  have hx := ha.els _ (Zi9 ⟨[], []⟩ hkl)
  generalize (a.elems.drop (k + 1)).flatMap Zce = R at l1
  generalize a.elems.getD k ⟨[], []⟩ = x at l1 hx
  obtain ⟨c, f⟩ := x
  have l1 : List.drop (k * 2) (a.elems.flatMap Zce) = .view c.length 6 (Zah c) :: .view f.length 1 (Zh .i64 f) :: R := l1
  have hc1 := ZgC c hx.1
  have ht1 := ZdD f hx.2
  have nx := aI @e7 (aI @hd1 (aI @l1 trivial))
  refine' Zfb
  all_goals first
   | exact ⟨a.elems.length - (k + 1), by omega, k + 1, rfl, by omega, rfl⟩
 have hd1 : decide ((k : Int) < (a.elems.length : Int)) = false := Yaf (by omega)
 have nx := aI @hd1 trivial
 refine' Zfb
 clear hd1 hkl hk
 refine AW.loop [2, 3, 6] [2, 3] (fun m st => ∃ k : Nat, st = ZDM a k /\ k <= a.codes.length /\ m = a.codes.length - k) ?_ ?_
 ·exact ⟨_, 0, rfl, Nat.zero_le _, rfl⟩
 rintro m st ⟨k, rfl, hk, rfl⟩
 by_cases hkl : k < a.codes.length
 ·have e7 : IntKind.i64.wrap ((k : Int) + 1) = ((k + 1 : Nat) : Int) := Zb _ (by have := ha.co; omega) (by have := ha.co; omega)
  have hd1 : decide ((k : Int) < (a.codes.length : Int)) = true := Yae (by omega)
  have l1 := Zc2 Zgs ⟨[], []⟩ a.codes k hkl
  have hx := ha.cos _ (Zi9 ⟨[], []⟩ hkl)
  generalize (a.codes.drop (k + 1)).flatMap ZgE = R at l1
  generalize a.codes.getD k ⟨[], []⟩ = x at l1 hx
  obtain ⟨f, c⟩ := x
  have l1 : List.drop (k * 2) (a.codes.flatMap ZgE) = .view f.length 1 (Zh .i64 f) :: .view c.length 6 (Zah c) :: R := l1
  have hc1 := ZgC c hx.2
  have ht1 := ZdD f hx.1
  have nx := aI @e7 (aI @hd1 (aI @l1 trivial))
  refine' Zfb
  all_goals first
   | exact ⟨a.codes.length - (k + 1), by omega, k + 1, rfl, by omega, rfl⟩
 have hd1 : decide ((k : Int) < (a.codes.length : Int)) = false := Yaf (by omega)
 have nx := aI @hd1 trivial
 refine' Zfb
 clear hd1 hkl hk
 refine AW.loop [2, 3, 7] [2, 3] (fun m st => ∃ k : Nat, st = ZDN a k /\ k <= a.datas.length /\ m = a.datas.length - k) ?_ ?_
 ·exact ⟨_, 0, rfl, Nat.zero_le _, rfl⟩
 rintro m st ⟨k, rfl, hk, rfl⟩
 by_cases hkl : k < a.datas.length
 ·have e7 : IntKind.i64.wrap ((k : Int) + 1) = ((k + 1 : Nat) : Int) := Zb _ (by have := ha.da; omega) (by have := ha.da; omega)
  have hd1 : decide ((k : Int) < (a.datas.length : Int)) = true := Yae (by omega)
  have l1 := Zc2 ZeS ⟨[], []⟩ a.datas k hkl
  have hx := ha.das _ (Zi9 ⟨[], []⟩ hkl)
  generalize (a.datas.drop (k + 1)).flatMap Zcf = R at l1
  generalize a.datas.getD k ⟨[], []⟩ = x at l1 hx
  obtain ⟨c, f⟩ := x
  have l1 : List.drop (k * 2) (a.datas.flatMap Zcf) = .view c.length 6 (Zah c) :: .view f.length 1 (Zh .u8 f) :: R := l1
  have hc1 := ZgC c hx.1
  have hby := hx.2
  have nx := aI @e7 (aI @hd1 (aI @l1 (aI @Ya4.{0} (aI @Bool.not_true trivial))))
  refine' Zwh
  all_goals first
   | exact ⟨a.datas.length - (k + 1), by omega, k + 1, rfl, by omega, rfl⟩
 have hd1 : decide ((k : Int) < (a.datas.length : Int)) = false := Yaf (by omega)
 have nx := aI @hd1 trivial
 refine' Zfb
 all_goals first | exact ⟨trivial, trivial⟩ | exact ⟨rfl, trivial⟩ | exact ⟨rfl, rfl⟩ | exact ⟨trivial, rfl⟩ | (exfalso; omega) | trace_state
end
section
def rtM (k : Nat) (b : List Int) (en : Nat) (t : Tq) : Mem := [(k, ⟨false, [.view b.length 1 (Zh .u8 b), .int .i64 t.p, .int .i64 en, .int .i64 t.e]⟩)]
def UF (f : FuncId) (args : List V) (b : List Int) (en : Nat) (t : Tq) (v : V) (t' : Tq) : Prop := AM Tryz.prog f (.ptr 0 0 :: args) (rtM 0 b en t) [0] (fun r m => r = v /\ m = rtM 0 b en t')
open MB
theorem ZDF.cl {p : Prop} (h : p := by
 first
  | refine AWL.cM (f := 118) [(0, 0)] Zj0 rfl rfl rfl rfl rfl rfl rfl (hfail) ?_
  | refine AWL.frzG rfl rfl rfl ?_
  | refine AWL.cC (f := 119) Zsg rfl rfl rfl rfl rfl rfl (hu) ?_
 all_goals (apply_rules (newGoals := .nonDependentOnly) only [dep]; exact ())) : p := h
theorem ZDG.cl {p : Prop} (h : p := by
 first
  | refine AWL.cM (f := 118) [(0, 0)] Zj0 rfl rfl rfl rfl rfl rfl rfl (hfail) ?_
  | refine AWL.cM (f := 99) [(0, 0)] Zp6 rfl rfl rfl rfl rfl rfl rfl (hnum) ?_
  | refine AWL.frzG rfl rfl rfl ?_
 all_goals (apply_rules (newGoals := .nonDependentOnly) only [dep]; exact ())) : p := h
open ZiM ZFF Zl in
theorem Zdg (b : List Int) (en : Nat) (t : Tq) (e : Int) : UF 118 [.int .i64 e] b en t (.tup []) (Za2 t e) := by
 obtain ⟨p, er⟩ := t
 unfold UF rtM
 refine AM.enter Tryz.func118 rfl (Yaa rfl) (fun pn => ?_)
 simp only [Tryz.f118]
 have hfail : True := trivial
 have hnum : True := trivial
 have hu : True := trivial
 by_cases h : er = 0
 ·have h1 : Za2 ⟨p, er⟩ e = ⟨p, e⟩ := if_pos h
  subst h
  have nx := aI @h1 trivial
  refine' Ze6
  all_goals first | exact ⟨trivial, trivial⟩ | exact ⟨rfl, trivial⟩ | exact ⟨rfl, rfl⟩ | exact ⟨trivial, rfl⟩ | (exfalso; omega) | trace_state
 ·have h1 : Za2 ⟨p, er⟩ e = ⟨p, er⟩ := if_neg h
  have nx := aI @h1 trivial
  refine' Ze6
  all_goals first | exact ⟨trivial, trivial⟩ | exact ⟨rfl, trivial⟩ | exact ⟨rfl, rfl⟩ | exact ⟨trivial, rfl⟩ | (exfalso; omega) | trace_state
open ZiM ZFK Zl in
theorem Zae (b : List Int) (en : Nat) (t : Tq) (c : Bool) : UF 97 [.bool c] b en t (.tup []) (Z5 c t) := by
 have hfail := Zdg b en t 10
 have hnum : True := trivial
 have hu : True := trivial
 unfold UF rtM at *
 cases c
 ·rw [show Z5 false t = Za2 t 10 from rfl]
  generalize Za2 t 10 = t2 at hfail
  obtain ⟨p, er⟩ := t
  obtain ⟨p2, e2⟩ := t2
  refine AM.enter Tryz.func97 rfl (Yaa rfl) (fun pn => ?_)
  simp only [Tryz.f97]
  have nx := trivial
  refine' Ze6
  all_goals first | exact ⟨trivial, trivial⟩ | exact ⟨rfl, trivial⟩ | exact ⟨rfl, rfl⟩ | exact ⟨trivial, rfl⟩ | (exfalso; omega) | trace_state
 ·rw [show Z5 true t = t from rfl]
  obtain ⟨p, er⟩ := t
  refine AM.enter Tryz.func97 rfl (Yaa rfl) (fun pn => ?_)
  simp only [Tryz.f97]
  have nx := trivial
  refine' Ze6
  all_goals first | exact ⟨trivial, trivial⟩ | exact ⟨rfl, trivial⟩ | exact ⟨rfl, rfl⟩ | exact ⟨trivial, rfl⟩ | (exfalso; omega) | trace_state
open ZiN ZFK Zl in
theorem Zec {b : List Int} {en : Nat} {t : Tq} (h : okT b t.p en) : UF 98 [] b en t (.int .i64 (ZbZ (b.take en) t).1) (ZbZ (b.take en) t).2 := by
 have hfail := Zdg b en t 10
 have hnum : True := trivial
 have hu : True := trivial
 have hlen := h.len
 obtain ⟨hb, hl, he, p0, p1⟩ := h
 obtain ⟨p, er⟩ := t
 simp only at p0 p1
 obtain ⟨k, rfl⟩ : ∃ k : Nat, p = k := ⟨p.toNat, by omega⟩
 have ew : IntKind.i64.wrap ((k : Int) + 1) = (k : Int) + 1 := Zb _ (by omega) (by omega)
 have ew2 : IntKind.i64.wrap ((k : Int) + 1 - 1) = (k : Int) := by rw [Zb _ (by omega) (by omega)]; omega
 obtain ⟨A, hA⟩ : ∃ A, ZbZ (b.take en) ⟨k, er⟩ = A := ⟨_, rfl⟩
 rw [hA]
 unfold ZbZ at hA
 rw [hlen] at hA
 unfold UF rtM at *
 by_cases c : er ≠ 0 \/ (k : Int) >= en
 ·rw [if_pos c] at hA
  subst hA
  generalize Za2 ⟨k, er⟩ 10 = t2 at hfail
  obtain ⟨p2, e2⟩ := t2
  refine AM.enter Tryz.func98 rfl (Yaa rfl) (fun pn => ?_)
  simp only [Tryz.f98]
  have nx := trivial
  refine' Zo1
  all_goals first | exact ⟨trivial, trivial⟩ | exact ⟨rfl, trivial⟩ | exact ⟨rfl, rfl⟩ | exact ⟨trivial, rfl⟩ | (exfalso; omega) | trace_state
 ·rw [if_neg c] at hA
  simp only [Yap] at hA
  rw [show (b.take en).getD k 0 = b.getD k 0 by simp only [Yah]; rw [List.getElem?_take_of_lt (by omega)]] at hA
  have hx := hb _ (Z8 (show k < b.length by omega))
  have ex : IntKind.i64.wrap (b.getD k 0) = b.getD k 0 := Zb _ (by have := hx.1; omega) (by have := hx.2; omega)
  subst hA
  refine AM.enter Tryz.func98 rfl (Yaa rfl) (fun pn => ?_)
  simp only [Tryz.f98]
  have nx := aI @ew (aI @ew2 (aI @ex trivial))
  refine' Zo1
  all_goals first | exact ⟨trivial, trivial⟩ | exact ⟨rfl, trivial⟩ | exact ⟨rfl, rfl⟩ | exact ⟨trivial, rfl⟩ | (exfalso; omega) | trace_state
open ZDF ZiL Zl in
theorem Zb0 {b : List Int} {en : Nat} {t : Tq} (h : okT b t.p en) : UF 99 [] b en t (.int .i64 (Zaj (b.take en) t).1) (Zaj (b.take en) t).2 := by
 have hfail := Zdg b en t 10
 have hnum : True := trivial
 have hlen := h.len
 have hu := Zi2 (b.take en) h.byt (by rw [hlen]; have := h.hl; have := h.he; omega) t.p ⟨h.p0, by rw [hlen]; exact h.p1⟩
 have htk : List.take en (Zh .u8 b) = Zh .u8 (b.take en) := by simp only [Zh, List.map_take]
 obtain ⟨hb, hl, he, p0, p1⟩ := h
 obtain ⟨p, er⟩ := t
 simp only at p0 p1 hu
 obtain ⟨A, hA⟩ : ∃ A, Zaj (b.take en) ⟨p, er⟩ = A := ⟨_, rfl⟩
 rw [hA]
 unfold Zaj at hA
 simp only at hA
 rw [hlen] at hu
 generalize Zar (b.take en) p = z at hu hA
 obtain ⟨n, to⟩ := z
 simp only at hu hA
 unfold UF rtM at *
 by_cases c : er ≠ 0
 ·rw [if_pos c] at hA
  subst hA
  refine AM.enter Tryz.func99 rfl (Yaa rfl) (fun pn => ?_)
  simp only [Tryz.f99]
  have nx := aI @htk trivial
  refine' Zkl
  all_goals first | exact ⟨trivial, trivial⟩ | exact ⟨rfl, trivial⟩ | exact ⟨rfl, rfl⟩ | exact ⟨trivial, rfl⟩ | (exfalso; omega) | trace_state
 rw [if_neg c] at hA
 by_cases c2 : to < 0
 ·rw [if_pos c2] at hA
  subst hA
  generalize Za2 ⟨p, er⟩ 10 = t2 at hfail
  obtain ⟨p2, e2⟩ := t2
  refine AM.enter Tryz.func99 rfl (Yaa rfl) (fun pn => ?_)
  simp only [Tryz.f99]
  have nx := aI @htk trivial
  refine' Zkl
  all_goals first | exact ⟨trivial, trivial⟩ | exact ⟨rfl, trivial⟩ | exact ⟨rfl, rfl⟩ | exact ⟨trivial, rfl⟩ | (exfalso; omega) | trace_state
 ·rw [if_neg c2] at hA
  subst hA
  refine AM.enter Tryz.func99 rfl (Yaa rfl) (fun pn => ?_)
  simp only [Tryz.f99]
  have nx := aI @htk trivial
  refine' Zkl
  all_goals first | exact ⟨trivial, trivial⟩ | exact ⟨rfl, trivial⟩ | exact ⟨rfl, rfl⟩ | exact ⟨trivial, rfl⟩ | (exfalso; omega) | trace_state
open ZDG ZfK Zl in
theorem Zfn {b : List Int} {en : Nat} {t : Tq} (h : okT b t.p en) (most : Int) : UF 102 [.int .i64 most] b en t (.int .i64 (ZaK (b.take en) most t).1) (ZaK (b.take en) most t).2 := by
 have hnum := Zb0 h
 have hu : True := trivial
 obtain ⟨A, hA⟩ : ∃ A, ZaK (b.take en) most t = A := ⟨_, rfl⟩
 rw [hA]
 unfold ZaK at hA
 generalize Zaj (b.take en) t = z at hnum hA
 obtain ⟨n, t1⟩ := z
 have hfail := Zdg b en t1 3
 obtain ⟨p, er⟩ := t
 simp only at hA
 unfold UF rtM at *
 by_cases c : n > most
 ·rw [if_pos c] at hA
  subst hA
  generalize Za2 t1 3 = t2 at hfail
  obtain ⟨p1, e1⟩ := t1
  obtain ⟨p2, e2⟩ := t2
  refine AM.enter Tryz.func102 rfl (Yaa rfl) (fun pn => ?_)
  simp only [Tryz.f102]
  have nx := trivial
  refine' Ze6
  all_goals first | exact ⟨trivial, trivial⟩ | exact ⟨rfl, trivial⟩ | exact ⟨rfl, rfl⟩ | exact ⟨trivial, rfl⟩ | (exfalso; omega) | trace_state
 ·rw [if_neg c] at hA
  subst hA
  obtain ⟨p1, e1⟩ := t1
  refine AM.enter Tryz.func102 rfl (Yaa rfl) (fun pn => ?_)
  simp only [Tryz.f102]
  have nx := trivial
  refine' Ze6
  all_goals first | exact ⟨trivial, trivial⟩ | exact ⟨rfl, trivial⟩ | exact ⟨rfl, rfl⟩ | exact ⟨trivial, rfl⟩ | (exfalso; omega) | trace_state
end
section
def OKS (x : Res Mod) (b : List Int) (en : Nat) (v : V) (mm : Mem) : Prop := match x with
 | .ok (m, t) => v = .tup [] /\ mm = tpM 0 b t en ++ [(1, ⟨false, Zdf m⟩)]
 | .error _ => False
def ERS (x : Res Mod) (m : Mod) (b : List Int) (en : Nat) (ch : List PanicEntry) (mm : Mem) : Prop := match x with
 | .ok _ => False
 | .error (e, t) => ch = ZwG e /\ mm = tpM 0 b t en ++ [(1, ⟨false, Zdf m⟩)]
theorem ZDt.NM : type_of% @MB.NM /\ type_of% @Zdf.eq_1 :=
 ⟨MB.NM, @Zdf.eq_1⟩
open ZDt
theorem Zyr.kp : type_of% (@Zs [0, 1, 2, 3, 6]) := @Zs [0, 1, 2, 3, 6]
theorem Zyr.cl {p : Prop} (h : p := by
 first
  | refine AWL.cMP (f := 78) [(0, 0)] ZEL rfl rfl rfl rfl rfl rfl rfl (q) ?_ ?_
  | refine AWL.cMP (f := 80) [(0, 0)] ZEN rfl rfl rfl rfl rfl rfl rfl (q) ?_ ?_
  | refine AWL.cMP (f := 82) [(0, 0)] ZBZ rfl rfl rfl rfl rfl rfl rfl (q) ?_ ?_
  | refine AWL.cMP (f := 83) [(0, 0), (3, 3)] ZEP rfl rfl rfl rfl rfl rfl rfl (q) ?_ ?_
  | refine AWL.cMP (f := 87) [(0, 0)] ZES rfl rfl rfl rfl rfl rfl rfl (q) ?_ ?_
  | refine AWL.cMP (f := 89) [(0, 0)] ZEU rfl rfl rfl rfl rfl rfl rfl (q) ?_ ?_
  | refine AWL.cMP (f := 91) [(0, 0)] ZEW rfl rfl rfl rfl rfl rfl rfl (q) ?_ ?_
  | refine AWL.cMP (f := 93) [(0, 0)] ZEY rfl rfl rfl rfl rfl rfl rfl (q) ?_ ?_
  | refine AWL.cMP (f := 95) [(0, 0)] ZE0 rfl rfl rfl rfl rfl rfl rfl (q) ?_ ?_
  | refine AWL.cMP (f := 50) [(0, 0)] Zp5 rfl rfl rfl rfl rfl rfl rfl (q) ?_ ?_
 all_goals (apply_rules (newGoals := .nonDependentOnly) only [dep]; exact ())) : p := h
open Zyr Zl in
theorem Zzj {b : List Int} {p : Int} {en : Nat} (h : okT b p en) (id : Int) (hid : 1 <= id /\ id <= 11) (m : Mod) : AMP Tryz.prog 52 [.ptr 0 0, .int .u8 id, .ptr 1 0] (tpM 0 b p en ++ [(1, ⟨false, Zdf m⟩)]) [0, 1] (OKS (ZnE (b.take en) id m p) b en) (ERS (ZnE (b.take en) id m p) m b en) := by
 obtain ⟨A, hA⟩ : ∃ A, ZnE (b.take en) id m p = A := ⟨_, rfl⟩
 rw [hA]
 unfold OKS ERS tpM
 have hs : id = 1 \/ id = 2 \/ id = 3 \/ id = 4 \/ id = 5 \/ id = 6 \/ id = 7 \/ id = 8 \/ id = 9 \/ id = 10 \/ id = 11 := by omega
 rcases hs with rfl | hs
 case' inl =>
  have q := ZtT h 256 (by decide) ZEM (one := ZtH (b.take en)) (fun t ht => Zzi ht) (fun t a q ht hq => (Zt2 ht hq).1)
  (try simp only [OKR, ERR, ZkV, ZkW, tpM] at q)
  have hA : bnd (Zv (b.take en) 256 (ZtH (b.take en)) p) (fun l t => .ok ({ m with types := l }, t)) = A := hA
  rcases z : Zv (b.take en) 256 (ZtH (b.take en)) p with ⟨e, t⟩ | ⟨l, t⟩
  all_goals
   rw [z] at hA q
   simp only [Zg, Zd] at hA q
   subst hA
 case' inr =>
  rcases hs with rfl | hs
  case' inl =>
   have q := ZtU h 512 (by decide) ZEO (one := ZuT (b.take en)) (fun t ht => Zml ht) (fun t a q ht hq => (Zt3 ht hq).1)
   (try simp only [OKR, ERR, ZkV, ZkW, tpM] at q)
   have hA : bnd (Zv (b.take en) 512 (ZuT (b.take en)) p) (fun l t => .ok ({ m with imports := l }, t)) = A := hA
   rcases z : Zv (b.take en) 512 (ZuT (b.take en)) p with ⟨e, t⟩ | ⟨l, t⟩
   all_goals
    rw [z] at hA q
    simp only [Zg, Zd] at hA q
    subst hA
  case' inr =>
   rcases hs with rfl | hs
   case' inl =>
    have q := Zgr h 512 (by decide) Zp5 (one := nmT (b.take en)) (fun t ht => Zcb ht) (fun t a q ht hq => (Za6 ht hq).1)
    (try simp only [OKR, ERR, ZkV, ZkW, tpM] at q)
    have hA : bnd (Zv (b.take en) 512 (nmT (b.take en)) p) (fun l t => .ok ({ m with funcs := l }, t)) = A := hA
    rcases z : Zv (b.take en) 512 (nmT (b.take en)) p with ⟨e, t⟩ | ⟨l, t⟩
    all_goals
     rw [z] at hA q
     simp only [Zg, Zd, ZhT] at hA q
     subst hA
   case' inr =>
    rcases hs with rfl | hs
    case' inl =>
     have q := Zmk h 512 (by decide) ZEQ (one := ZtI (b.take en)) (fun t ht => ZwZ ht) (fun t a q ht hq => (Zt1 ht hq).1)
     (try simp only [OKR, ERR, ZkV, ZkW, tpM] at q)
     have hA : bnd (Zv (b.take en) 512 (ZtI (b.take en)) p) (fun l t => .ok ({ m with tables := l }, t)) = A := hA
     rcases z : Zv (b.take en) 512 (ZtI (b.take en)) p with ⟨e, t⟩ | ⟨l, t⟩
     all_goals
      rw [z] at hA q
      simp only [Zg, Zd] at hA q
      subst hA
    case' inr =>
     rcases hs with rfl | hs
     case' inl =>
      have q := Zmk h 512 (by decide) ZER (one := Zme (b.take en) 16) (fun t ht => Zw0 ht) (fun t a q ht hq => (ZnG ht hq).1)
      (try simp only [OKR, ERR, ZkV, ZkW, tpM] at q)
      have hA : bnd (Zv (b.take en) 512 (Zme (b.take en) 16) p) (fun l t => .ok ({ m with mems := l }, t)) = A := hA
      rcases z : Zv (b.take en) 512 (Zme (b.take en) 16) p with ⟨e, t⟩ | ⟨l, t⟩
      all_goals
       rw [z] at hA q
       simp only [Zg, Zd] at hA q
       subst hA
     case' inr =>
      rcases hs with rfl | hs
      case' inl =>
       have q := Zqq h 512 (by decide) ZET (one := ZiU (b.take en)) (fun t ht => Zqt ht) (fun t a q ht hq => (Zpr ht hq).1)
       (try simp only [OKR, ERR, ZkV, ZkW, tpM] at q)
       have hA : bnd (Zv (b.take en) 512 (ZiU (b.take en)) p) (fun l t => .ok ({ m with globals := l }, t)) = A := hA
       rcases z : Zv (b.take en) 512 (ZiU (b.take en)) p with ⟨e, t⟩ | ⟨l, t⟩
       all_goals
        rw [z] at hA q
        simp only [Zg, Zd] at hA q
        subst hA
      case' inr =>
       rcases hs with rfl | hs
       case' inl =>
        have q := ZtV h 512 (by decide) ZEV (one := ZuU (b.take en)) (fun t ht => Zqu ht) (fun t a q ht hq => (Zt4 ht hq).1)
        (try simp only [OKR, ERR, ZkV, ZkW, tpM] at q)
        have hA : bnd (Zv (b.take en) 512 (ZuU (b.take en)) p) (fun l t => .ok ({ m with exports := l }, t)) = A := hA
        rcases z : Zv (b.take en) 512 (ZuU (b.take en)) p with ⟨e, t⟩ | ⟨l, t⟩
        all_goals
         rw [z] at hA q
         simp only [Zg, Zd] at hA q
         subst hA
       case' inr =>
        rcases hs with rfl | hs
        case' inl =>
         have q := Zcb h
         unfold TF OKR ERR tpM at q
         have hA : bnd (nmT (b.take en) p) (fun l t => .ok ({ m with start := l }, t)) = A := hA
         rcases z : nmT (b.take en) p with ⟨e, t⟩ | ⟨l, t⟩
         all_goals
          rw [z] at hA q
          simp only [Zg, Zd] at hA q
          subst hA
        case' inr =>
         rcases hs with rfl | hs
         case' inl =>
          have q := Zqr h 512 (by decide) ZEX (one := ZiV (b.take en)) (fun t ht => ZwX ht) (fun t a q ht hq => (Zps ht hq).1)
          (try simp only [OKR, ERR, ZkV, ZkW, tpM] at q)
          have hA : bnd (Zv (b.take en) 512 (ZiV (b.take en)) p) (fun l t => .ok ({ m with elems := l }, t)) = A := hA
          rcases z : Zv (b.take en) 512 (ZiV (b.take en)) p with ⟨e, t⟩ | ⟨l, t⟩
          all_goals
           rw [z] at hA q
           simp only [Zg, Zd] at hA q
           subst hA
         case' inr =>
          rcases hs with rfl | hs
          case' inl =>
           have q := ZtW h 512 (by decide) ZEZ (one := ZiX (b.take en)) (fun t ht => Zw1 ht) (fun t a q ht hq => (Zpu ht hq).1)
           (try simp only [OKR, ERR, ZkV, ZkW, tpM] at q)
           have hA : bnd (Zv (b.take en) 512 (ZiX (b.take en)) p) (fun l t => .ok ({ m with codes := l }, t)) = A := hA
           rcases z : Zv (b.take en) 512 (ZiX (b.take en)) p with ⟨e, t⟩ | ⟨l, t⟩
           all_goals
            rw [z] at hA q
            simp only [Zg, Zd] at hA q
            subst hA
          case' inr =>
           subst hs
           have q := Zqs h 512 (by decide) ZE1 (one := ZiW (b.take en)) (fun t ht => ZwY ht) (fun t a q ht hq => (Zpt ht hq).1)
           (try simp only [OKR, ERR, ZkV, ZkW, tpM] at q)
           have hA : bnd (Zv (b.take en) 512 (ZiW (b.take en)) p) (fun l t => .ok ({ m with datas := l }, t)) = A := hA
           rcases z : Zv (b.take en) 512 (ZiW (b.take en)) p with ⟨e, t⟩ | ⟨l, t⟩
           all_goals
            rw [z] at hA q
            simp only [Zg, Zd] at hA q
            subst hA
 all_goals
  clear h
  simp only [Zdf]
  refine AMP.enter Tryz.func52 rfl (Yaa rfl) (fun pn => ?_)
  simp only [Tryz.f52]
  have nx := trivial
  refine' ZvL
  all_goals first | exact ⟨trivial, trivial⟩ | exact ⟨rfl, trivial⟩ | exact ⟨rfl, rfl⟩ | exact ⟨trivial, rfl⟩ | (exfalso; omega) | trace_state
end
end Go.Proofs.YtimhmpdfioihlaaGreatDoor
