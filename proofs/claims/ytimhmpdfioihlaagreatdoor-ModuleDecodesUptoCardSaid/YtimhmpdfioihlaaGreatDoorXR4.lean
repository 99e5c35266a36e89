/- fields, of the document: tables. -/
import Derived.Test.YtimhmpdfioihlaaGreatDoorDP
import Derived.Test.YtimhmpdfioihlaaGreatDoorGWords
import Derived.Test.YtimhmpdfioihlaaGreatDoorGCB
import Derived.Test.YtimhmpdfioihlaaGreatDoorXR3
set_option linter.unusedSimpArgs false
set_option linter.unusedVariables false
set_option maxHeartbeats 12800000
namespace Go.Proofs.YtimhmpdfioihlaaGreatDoor
set_option maxRecDepth 20000
open Go Go.Abs Nat
attribute [local irreducible] AW AWL AC FW CW CWr IntKind.wrap
section
def ZCf (b : List Int) (op : Int) (n : Nat) (to : Int) (l : List Int) (i : Nat) : St := { n := 205, slots := [(0, .view b.length 1 (Zh .u8 b)), (6, .ptr 6 0), (8, .ptr 8 0), (14, .int .i64 (n : Int)), (15, .int .i64 to), (16, .int .i64 (i : Int))], mem := [(6, ⟨false, [.int .i64 op, .int .i64 0, .int .i64 0, .int .u64 0, .int .u64 0, .ref 7005 0 l.length 1]⟩), (7005, ⟨true, Zh .i64 l⟩), (8, ⟨false, [.int .i64 0, .int .i64 0, .int .i64 0, .int .u64 0, .int .u64 0, .ref 9005 0 0 1]⟩), (9005, ⟨true, []⟩)] }
theorem ZFo.NM : type_of% @MB.NM /\ type_of% @Zfy.eq_1 /\ type_of% @ZCf.eq_1 :=
 ⟨MB.NM, @Zfy.eq_1, @ZCf.eq_1⟩
open ZFo
theorem ZDE.cl {p : Prop} (h : p := by
 first
  | refine AWL.frzG rfl rfl rfl ?_
  | refine AWL.cC (f := 119) Zsg rfl rfl rfl rfl rfl rfl (hn1) ?_
  | refine AWL.cC (f := 166) ZAn rfl rfl rfl rfl rfl rfl (hdo) ?_
 all_goals (apply_rules (newGoals := .nonDependentOnly) only [dep]; exact ())) : p := h
open ZDE Zs9 Zl in
theorem ZqB (b : List Int) (hb : bytes b) (hlen : b.length <= 1000000000) (p : Nat) (hp : p <= b.length) (op : Int) :
 AC Tryz.prog 148 [.view b.length 1 (Zh .u8 b), .int .i64 (p : Int), .agg (Zz5 op), .int .i64 4] (fun v m => v = .tup [.agg (Zfy (Zjg b p ⟨op, 0, 0, 0, 0, []⟩ 4).1), .int .i64 (Zjg b p ⟨op, 0, 0, 0, 0, []⟩ 4).2.1, .int .i64 (Zjg b p ⟨op, 0, 0, 0, 0, []⟩ 4).2.2] /\ m = []) := by
 have hdo : True := trivial
 obtain ⟨A, hA⟩ : ∃ A, Zjg b p ⟨op, 0, 0, 0, 0, []⟩ 4 = A := ⟨_, rfl⟩
 rw [hA]
 unfold Zjg at hA
 rw [if_neg (by decide), if_neg (by decide), if_pos rfl] at hA
 have hn1 := Zi2 b hb hlen p ⟨by omega, by omega⟩
 have hno := ZeU hb (p := (p : Int)) ⟨by omega, by omega⟩
 generalize Zar b p = z at hA hn1 hno
 obtain ⟨n, to⟩ := z
 simp only at hA hno
 obtain ⟨N, rfl⟩ : ∃ N : Nat, n = N := ⟨n.toNat, by omega⟩
 rw [Yap] at hA
 unfold Zz5
 refine AC.enter Tryz.func148 rfl (Yaa rfl) ?_
 simp only [Tryz.f148]
 have nx := trivial
 refine' Zaw
 refine AW.loop [0, 6, 8, 14, 15, 16] [6, 7005, 8, 9005] (fun m st => ∃ (i : Nat) (t : Int) (l : List Int), st = ZCf b op N t l i /\ (t = -1 \/ 0 <= t) /\ t <= b.length /\ tbR b N to [] = tbR b (N - i) t l /\ l.length <= (if t < 0 then (b.length : Int) + 1 else t) /\ i <= N /\ m = N - i) ?_ ?_
 ·exact ⟨_, 0, to, [], rfl, by omega, by omega, rfl, by simp only [List.length_nil]; split <;> omega, Nat.zero_le _, rfl⟩
 rintro m st ⟨i, t, l, rfl, ht0, htb, ht, hll, hiN, rfl⟩
 have hl2 : l.length <= 1000000001 := by split at hll <;> omega
 by_cases hgo : i < N /\ 0 <= t
 ·obtain ⟨hi, ht1⟩ := hgo
  have e5 : IntKind.i64.wrap ((i : Int) + 1) = ((i + 1 : Nat) : Int) := Zb _ (by omega) (by omega)
  have hn1 := Zi2 b hb hlen t ⟨ht1, htb⟩
  have hno := ZeU hb (p := t) ⟨ht1, htb⟩
  rw [show N - i = (N - (i + 1)) + 1 by omega, tbR, if_pos ht1] at ht
  rw [if_neg (by omega)] at hll
  generalize Zar b t = z at hn1 hno ht
  obtain ⟨x, t2⟩ := z
  simp only at hno ht
  have hla : (l ++ [x]).length = l.length + 1 := by simp
  have hgz : decide ((i : Int) < (N : Int)) = true := Yae (by omega)
  have nx := aI @e5 (aI @Yau.{0} (aI @hgz trivial))
  refine' Zaw
  all_goals first
   | exact ⟨N - (i + 1), by omega, i + 1, t2, l ++ [x], by rw [ZCf, hla]; rfl, by omega, by omega, ht, by rw [hla]; split <;> omega, by omega, rfl⟩
 ·have ht2 : tbR b N to [] = (l, t) := by
   rw [ht]
   cases hk : N - i with
   | zero => rfl
   | succ k => rw [tbR, if_neg (fun h => hgo ⟨by omega, h⟩)]
  rw [ht2] at hA
  simp only at hA
  unfold ZbF at hA
  by_cases ht1 : 0 <= t
  ·rw [if_pos (show t >= 0 from ht1)] at hA
   have hn1 := Zi2 b hb hlen t ⟨ht1, htb⟩
   generalize Zar b t = z at hn1 hA
   obtain ⟨x, t2⟩ := z
   simp only at hA
   have hdo := Zcg ⟨op, x, 0, 0, 0, l⟩ t2
   generalize ZbE ⟨op, x, 0, 0, 0, l⟩ t2 = y at hA hdo
   obtain ⟨y1, y2, y3⟩ := y
   have hgz : decide ((i : Int) < (N : Int)) = false := Yaf (by omega)
   have nx := aI @Yau.{0} (aI @hgz trivial)
   refine' Zaw
   all_goals first | exact ⟨trivial, trivial⟩ | exact ⟨rfl, trivial⟩ | exact ⟨rfl, rfl⟩ | exact ⟨trivial, rfl⟩ | (rw [<- hA]; first | exact ⟨rfl, trivial⟩ | exact rfl) | (exfalso; omega) | trace_state
  ·rw [if_neg (show ¬ t >= 0 by omega)] at hA
   simp only at hA
   have hdo := Zcg ⟨op, 0, 0, 0, 0, l⟩ t
   generalize ZbE ⟨op, 0, 0, 0, 0, l⟩ t = y at hA hdo
   obtain ⟨y1, y2, y3⟩ := y
   have nx := aI @Yau.{0} trivial
   refine' Zaw
   all_goals first | exact ⟨trivial, trivial⟩ | exact ⟨rfl, trivial⟩ | exact ⟨rfl, rfl⟩ | exact ⟨trivial, rfl⟩ | (rw [<- hA]; first | exact ⟨rfl, trivial⟩ | exact rfl) | (exfalso; omega) | trace_state
end
end Go.Proofs.YtimhmpdfioihlaaGreatDoor
