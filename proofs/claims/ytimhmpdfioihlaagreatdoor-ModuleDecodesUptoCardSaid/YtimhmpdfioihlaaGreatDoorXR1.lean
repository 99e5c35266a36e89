/- U32, opcode, kind, of the document. -/
import Derived.Test.YtimhmpdfioihlaaGreatDoorDP
import Derived.Test.YtimhmpdfioihlaaGreatDoorGWords
import Derived.Test.YtimhmpdfioihlaaGreatDoorGCB
import Derived.Test.YtimhmpdfioihlaaGreatDoorGLook
import Derived.Test.YtimhmpdfioihlaaGreatDoorGXP
set_option linter.unusedSimpArgs false
set_option linter.unusedVariables false
set_option maxHeartbeats 12800000
namespace Go.Proofs.YtimhmpdfioihlaaGreatDoor
set_option maxRecDepth 20000
open Go Go.Abs Nat
attribute [local irreducible] AW AWL AC FW CW CWr IntKind.wrap
section
theorem ZFl.NM : type_of% @MB.NM /\ type_of% @Zjf.eq_1 :=
 ⟨MB.NM, @Zjf.eq_1⟩
open ZFl
theorem ZBd.kp : type_of% (@Zs [0, 1, 4, 5, 6, 7, 8]) := @Zs [0, 1, 4, 5, 6, 7, 8]
theorem ZBd.cl {p : Prop} (h : p := by
 first
  | refine AWL.frzG rfl rfl rfl ?_
  | refine AWL.cC (f := 136) ZCv rfl rfl rfl rfl rfl rfl (hu) ?_
 all_goals (apply_rules (newGoals := .nonDependentOnly) only [dep]; exact ())) : p := h
theorem ZBe.kp : type_of% (@Zs [0, 1, 4, 5, 6, 7, 8, 9, 11]) := @Zs [0, 1, 4, 5, 6, 7, 8, 9, 11]
theorem ZBe.cl {p : Prop} (h : p := by
 first
  | refine AWL.frzG rfl rfl rfl ?_
  | refine AWL.cC (f := 119) Zsg rfl rfl rfl rfl rfl rfl (hn) ?_
  | refine AWL.cC (f := 160) ZCD rfl rfl rfl rfl rfl rfl (hfl) ?_
  | refine AWL.cC (f := 147) ZAm rfl rfl rfl rfl rfl rfl (hof) ?_
 all_goals (apply_rules (newGoals := .nonDependentOnly) only [dep]; exact ())) : p := h
theorem ZDB.cl {p : Prop} (h : p := by
 first
  | refine AWL.frzG rfl rfl rfl ?_
  | refine AWL.cC (f := 142) ZAl rfl rfl rfl rfl rfl rfl (hs) ?_
 all_goals (apply_rules (newGoals := .nonDependentOnly) only [dep]; exact ())) : p := h
open ZBd Zl in
theorem Zi2 (b : List Int) (hb : bytes b) (hlen : b.length <= 1000000000) (p : Int) (h : 0 <= p /\ p <= b.length) : AC Tryz.prog 119 [.view b.length 1 (Zh .u8 b), .int .i64 p] (fun v m => v = .tup [.int .i64 (Zar b p).1, .int .i64 (Zar b p).2] /\ m = []) := by
 have hu := ZC5 b hb (by omega) p 32
 have hus := fun c => ZaO hb h c
 obtain ⟨A, hA⟩ : ∃ A, Zar b p = A := ⟨_, rfl⟩
 rw [hA]
 unfold Zar at hA
 generalize ZaM b p 32 = z at hu hus hA
 obtain ⟨n, to, e⟩ := z
 simp only at hu hus hA
 refine AC.enter Tryz.func119 rfl (Yaa rfl) ?_
 simp only [Tryz.f119]
 by_cases c : e ≠ 0
 ·rw [if_pos c] at hA
  subst hA
  have nx := trivial
  refine' ZoW
  all_goals first | exact ⟨trivial, trivial⟩ | exact ⟨rfl, trivial⟩ | exact ⟨rfl, rfl⟩ | exact ⟨trivial, rfl⟩ | (exfalso; omega) | trace_state
 ·rw [if_neg c] at hA
  subst hA
  have hus := hus (Classical.not_not.1 c)
  have ew : IntKind.i64.wrap n = n := Zb _ (by omega) (by omega)
  have nx := aI @ew trivial
  refine' ZoW
  all_goals first | exact ⟨trivial, trivial⟩ | exact ⟨rfl, trivial⟩ | exact ⟨rfl, rfl⟩ | exact ⟨trivial, rfl⟩ | (exfalso; omega) | trace_state
open ZBe Zl in
theorem Zuf (b : List Int) (hb : bytes b) (hlen : b.length <= 1000000000) (k : Nat) (h : k <= b.length) : AC Tryz.prog 146 [.view b.length 1 (Zh .u8 b), .int .i64 (k : Int)] (fun v m => v = .tup [.int .i64 (Zc5 b k).1, .int .i64 (Zc5 b k).2.1, .int .i64 (Zc5 b k).2.2] /\ m = []) := by
 have hn : True := trivial
 have hfl : True := trivial
 have hof : True := trivial
 obtain ⟨A, hA⟩ : ∃ A, Zc5 b k = A := ⟨_, rfl⟩
 rw [hA]
 unfold Zc5 at hA
 rw [Yap] at hA
 have ew : IntKind.i64.wrap ((k : Int) + 1) = (k : Int) + 1 := Zb _ (by omega) (by omega)
 by_cases hk : (k : Int) >= b.length
 ·rw [if_pos hk] at hA
  subst hA
  refine AC.enter Tryz.func146 rfl (Yaa rfl) ?_
  simp only [Tryz.f146]
  have nx := trivial
  refine' Zaw
  all_goals first | exact ⟨trivial, trivial⟩ | exact ⟨rfl, trivial⟩ | exact ⟨rfl, rfl⟩ | exact ⟨trivial, rfl⟩ | (exfalso; omega) | trace_state
 rw [if_neg hk] at hA
 have hx := hb _ (Z8 (show k < b.length by omega))
 obtain ⟨c, hxc⟩ : ∃ c, b.getD k 0 = c := ⟨_, rfl⟩
 rw [hxc] at hA hx
 have hx1 := hx.1
 have hx2 := hx.2
 have ex : IntKind.i64.wrap c = c := Zb _ (by omega) (by omega)
 by_cases h1 : c = 252 \/ c = 253
 ·rw [if_pos h1] at hA
  have hn := Zi2 b hb hlen ((k : Int) + 1) ⟨by omega, by omega⟩
  have hno := ZeU hb (p := (k : Int) + 1) ⟨by omega, by omega⟩
  generalize Zar b ((k : Int) + 1) = z at hA hn hno
  obtain ⟨n, to⟩ := z
  simp only at hA hn hno
  by_cases h2 : to < 0
  ·rw [if_pos h2] at hA
   subst hA
   refine AC.enter Tryz.func146 rfl (Yaa rfl) ?_
   simp only [Tryz.f146]
   have nx := aI @ew (aI @hxc (aI @ex trivial))
   refine' Zaw
   all_goals first | exact ⟨trivial, trivial⟩ | exact ⟨rfl, trivial⟩ | exact ⟨rfl, rfl⟩ | exact ⟨trivial, rfl⟩ | (exfalso; omega) | trace_state
  rw [if_neg h2] at hA
  by_cases h3 : c = 252 /\ n <= 7
  ·rw [if_pos h3] at hA
   subst hA
   obtain ⟨rfl, h3⟩ := h3
   refine AC.enter Tryz.func146 rfl (Yaa rfl) ?_
   simp only [Tryz.f146]
   have nx := aI @ew (aI @hxc (aI @ex trivial))
   refine' Zaw
   all_goals first | exact ⟨trivial, trivial⟩ | exact ⟨rfl, trivial⟩ | exact ⟨rfl, rfl⟩ | exact ⟨trivial, rfl⟩ | (exfalso; omega) | trace_state
  rw [if_neg h3] at hA
  by_cases h4 : c = 252 \/ n > 255
  ·rw [if_pos h4] at hA
   subst hA
   refine AC.enter Tryz.func146 rfl (Yaa rfl) ?_
   simp only [Tryz.f146]
   have nx := aI @ew (aI @hxc (aI @ex trivial))
   refine' Zaw
   all_goals first | exact ⟨trivial, trivial⟩ | exact ⟨rfl, trivial⟩ | exact ⟨rfl, rfl⟩ | exact ⟨trivial, rfl⟩ | (exfalso; omega) | trace_state
  rw [if_neg h4] at hA
  obtain rfl : c = 253 := by omega
  have en : IntKind.i64.wrap (64768 + n) = 64768 + n := Zb _ (by omega) (by omega)
  have hfl := Zl7 (64768 + n)
  have hof := Zky (64768 + n)
  unfold Zzp at hA
  generalize ofS (64768 + n) = z at hof hA
  generalize flS (64768 + n) = f at hfl hA
  obtain ⟨z1, z2⟩ := z
  refine AC.enter Tryz.func146 rfl (Yaa rfl) ?_
  simp only [Tryz.f146]
  cases f <;> cases z2 <;> simp only [Bool.false_eq_true, ↓reduceIte] at hA <;> subst hA
  all_goals
   have nx := aI @ew (aI @hxc (aI @ex (aI @en trivial)))
   refine' Zaw
   all_goals first | exact ⟨trivial, trivial⟩ | exact ⟨rfl, trivial⟩ | exact ⟨rfl, rfl⟩ | exact ⟨trivial, rfl⟩ | (exfalso; omega) | trace_state
 ·rw [if_neg h1] at hA
  have hfl := Zl7 c
  have hof := Zky c
  unfold Zzp at hA
  generalize ofS c = z at hof hA
  generalize flS c = f at hfl hA
  obtain ⟨z1, z2⟩ := z
  refine AC.enter Tryz.func146 rfl (Yaa rfl) ?_
  simp only [Tryz.f146]
  cases f <;> cases z2 <;> simp only [Bool.false_eq_true, ↓reduceIte] at hA <;> subst hA
  all_goals
   have nx := aI @ew (aI @hxc (aI @ex trivial))
   refine' Zaw
   all_goals first | exact ⟨trivial, trivial⟩ | exact ⟨rfl, trivial⟩ | exact ⟨rfl, rfl⟩ | exact ⟨trivial, rfl⟩ | (exfalso; omega) | trace_state
open ZDB Zs1 Zl in
theorem Zw6 (b : List Int) (hb : bytes b) (hlen : b.length <= 1000000000) (k : Nat) (h : k <= b.length) : AC Tryz.prog 165 [.view b.length 1 (Zh .u8 b), .int .i64 (k : Int)] (fun v m => v = .tup [.int .i64 (Zmm b k).1, .int .i64 (Zmm b k).2.1, .int .i64 (Zmm b k).2.2] /\ m = []) := by
 have hs := ZyU b hb (by omega) k 33
 obtain ⟨A, hA⟩ : ∃ A, Zmm b k = A := ⟨_, rfl⟩
 rw [hA]
 unfold Zmm at hA
 rw [Yap] at hA
 have ew : IntKind.i64.wrap ((k : Int) + 1) = (k : Int) + 1 := Zb _ (by omega) (by omega)
 generalize Zad b k 33 = z at hs hA
 obtain ⟨n, to, e⟩ := z
 simp only at hs hA
 by_cases hk : (k : Int) < b.length
 ·have hx := hb _ (Z8 (show k < b.length by omega))
  obtain ⟨c, hxc⟩ : ∃ c, b.getD k 0 = c := ⟨_, rfl⟩
  rw [hxc] at hA hx
  have hx1 := hx.1
  have hx2 := hx.2
  have ex : IntKind.i64.wrap c = c := Zb _ (by omega) (by omega)
  have ex2 : IntKind.i64.wrap (c - 128) = c - 128 := Zb _ (by omega) (by omega)
  by_cases c1 : Zeh c
  ·rw [if_pos ⟨hk, c1⟩] at hA
   subst hA
   unfold Zeh at c1
   refine AC.enter Tryz.func165 rfl (Yaa rfl) ?_
   simp only [Tryz.f165]
   rcases c1 with rfl | rfl
   all_goals
    have nx := aI @ew (aI @hxc (aI @ex (aI @ex2 trivial)))
    refine' Zaw
    all_goals first | exact ⟨trivial, trivial⟩ | exact ⟨rfl, trivial⟩ | exact ⟨rfl, rfl⟩ | exact ⟨trivial, rfl⟩ | (exfalso; omega) | trace_state
  ·rw [if_neg (fun h => c1 h.2)] at hA
   by_cases c2 : Zg3 c
   ·rw [if_pos ⟨hk, c2⟩] at hA
    subst hA
    unfold Zg3 at c2
    refine AC.enter Tryz.func165 rfl (Yaa rfl) ?_
    simp only [Tryz.f165]
    rcases c2 with rfl | rfl | rfl | rfl
    all_goals
     have nx := aI @ew (aI @hxc (aI @ex (aI @ex2 trivial)))
     refine' Zaw
     all_goals first | exact ⟨trivial, trivial⟩ | exact ⟨rfl, trivial⟩ | exact ⟨rfl, rfl⟩ | exact ⟨trivial, rfl⟩ | (exfalso; omega) | trace_state
   ·rw [if_neg (fun h => c2 h.2)] at hA
    unfold Zeh at c1
    unfold Zg3 at c2
    by_cases c3 : e ≠ 0 \/ n < 0
    ·rw [if_pos c3] at hA
     subst hA
     refine AC.enter Tryz.func165 rfl (Yaa rfl) ?_
     simp only [Tryz.f165]
     have nx := aI @ew (aI @hxc (aI @ex (aI @ex2 trivial)))
     refine' Zaw
     all_goals first | exact ⟨trivial, trivial⟩ | exact ⟨rfl, trivial⟩ | exact ⟨rfl, rfl⟩ | exact ⟨trivial, rfl⟩ | (exfalso; omega) | trace_state
    ·rw [if_neg c3] at hA
     subst hA
     refine AC.enter Tryz.func165 rfl (Yaa rfl) ?_
     simp only [Tryz.f165]
     have nx := aI @ew (aI @hxc (aI @ex (aI @ex2 trivial)))
     refine' Zaw
     all_goals first | exact ⟨trivial, trivial⟩ | exact ⟨rfl, trivial⟩ | exact ⟨rfl, rfl⟩ | exact ⟨trivial, rfl⟩ | (exfalso; omega) | trace_state
 ·rw [if_neg (fun h => hk h.1), if_neg (fun h => hk h.1)] at hA
  refine AC.enter Tryz.func165 rfl (Yaa rfl) ?_
  simp only [Tryz.f165]
  by_cases c3 : e ≠ 0 \/ n < 0
  ·rw [if_pos c3] at hA
   subst hA
   have nx := aI @ew trivial
   refine' Zaw
   all_goals first | exact ⟨trivial, trivial⟩ | exact ⟨rfl, trivial⟩ | exact ⟨rfl, rfl⟩ | exact ⟨trivial, rfl⟩ | (exfalso; omega) | trace_state
  ·rw [if_neg c3] at hA
   subst hA
   have nx := aI @ew trivial
   refine' Zaw
   all_goals first | exact ⟨trivial, trivial⟩ | exact ⟨rfl, trivial⟩ | exact ⟨rfl, rfl⟩ | exact ⟨trivial, rfl⟩ | (exfalso; omega) | trace_state
end
end Go.Proofs.YtimhmpdfioihlaaGreatDoor
