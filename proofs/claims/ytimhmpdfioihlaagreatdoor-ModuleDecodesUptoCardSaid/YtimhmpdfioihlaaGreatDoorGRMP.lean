/- The document's read. -/
import Derived.Test.YtimhmpdfioihlaaGreatDoorDP
import Derived.Test.YtimhmpdfioihlaaGreatDoorGWords
import Derived.Test.YtimhmpdfioihlaaGreatDoorGCB
import Derived.Test.YtimhmpdfioihlaaGreatDoorGXP
set_option linter.unusedSimpArgs false
set_option linter.unusedVariables false
set_option maxHeartbeats 12800000
namespace Go.Proofs.YtimhmpdfioihlaaGreatDoor
set_option maxRecDepth 20000
open Go Go.Abs
theorem ZDv : Zc Tryz.prog 104 = true := by kernel_rfl
attribute [local irreducible] AW AWL AC FW CW CWr IntKind.wrap
def T20 (xs : List Int) (at_ bits : Int) (sg : Bool) (n : Nat) (c : List V) (k : Int) : St :=
 { n := 103, slots := [(0, .view xs.length 1 (Zh .u8 xs)), (1, .int .i64 at_), (2, .int .i64 bits), (3, .bool sg), (8, .ref 8 0 0 1), (11, .ref 11 0 n 1), (12, .int .i64 k)], mem := [(11, ⟨true, c⟩)] }
def S20 (xs : List Int) (at_ bits : Int) (sg : Bool) (n : Nat) (c : List V) (k x i : Int) : St :=
 { n := 103, slots := [(0, .view xs.length 1 (Zh .u8 xs)), (1, .int .i64 at_), (2, .int .i64 bits), (3, .bool sg), (8, .ref 8 0 0 1), (11, .ref 11 0 n 1), (12, .int .i64 k), (13, .int .u8 x), (14, .int .i64 i)], mem := [(11, ⟨true, c⟩)] }
theorem Zyi.kp : type_of% (@Zs [0, 1, 2, 3, 8, 9, 10, 11, 12, 13, 14]) := @Zs [0, 1, 2, 3, 8, 9, 10, 11, 12, 13, 14]
theorem Zyi.sd {p : Prop} (h : p := by first | exact ZvC) : p := h
open Zyi in
set_option maxRecDepth 4000 in
theorem Ztk (xs : List Int) (hb : bytes xs) (hlen : xs.length <= 1000000000000000) (at_ bits : Int) (sg : Bool) :
 AC Tryz.prog 145 [.view xs.length 1 (Zh .u8 xs), .int .i64 at_, .int .i64 bits, .bool sg] (fun r m => r = .tup [.ref 8 0 (Zbj sg xs at_ bits).1.length 1, .int .i64 (Zbj sg xs at_ bits).2.1, .int .i64 (Zbj sg xs at_ bits).2.2] /\ m = [(8, Zh .i64 (Zbj sg xs at_ bits).1)]) := by
 refine AC.enter Tryz.func145 rfl (Yaa rfl) ?_
 simp only [Tryz.f145]
 have nx := trivial
 refine' Zgb
 ·rw [Zbj, if_pos (by omega)]; exact ⟨rfl, rfl⟩
 ·obtain ⟨a0, rfl⟩ : ∃ a0 : Nat, at_ = a0 := ⟨at_.toNat, by omega⟩
  have hsp : Zbj sg xs a0 bits = rRd sg bits (xs.drop (a0 + 0)) 0 [] (((a0 + 0 : Nat)) : Int) := by rw [Zbj, if_neg (by omega), Yap]; rfl
  refine AW.loop [0, 1, 2, 3, 8, 11, 12] [11] (fun w st => ∃ (k : Nat) (l : List Int), st = T20 xs a0 bits sg l.length (Zh .i64 l) k /\ a0 + k <= xs.length /\ w = xs.length - (a0 + k) /\ 7 * (k : Int) < bits /\ l.length = 7 * k /\ Zbj sg xs a0 bits = rRd sg bits (xs.drop (a0 + k)) k l (((a0 + k : Nat)) : Int)) ?_ ?_
  ·exact ⟨_, 0, [], rfl, by omega, rfl, by omega, rfl, hsp⟩
  ·rintro w st ⟨k, l, rfl, ha, rfl, hkb, hl, hs⟩
   by_cases hal : a0 + k < xs.length
   ·have hx := hb _ (Z8 hal)
    rw [Zcq hal] at hs
    simp only [rRd] at hs
    have hW : IntKind.i64.wrap ((a0 : Int) + (k : Int)) = ((a0 + k : Nat) : Int) := Zb _ (by omega) (by omega)
    have hM : IntKind.i64.wrap (7 * (k : Int)) = ((7 * k : Nat) : Int) := Zb _ (by omega) (by omega)
    have hW3 : IntKind.i64.wrap (((a0 + k : Nat) : Int) + 1) = ((a0 + k : Nat) : Int) + 1 := Zb _ (by omega) (by omega)
    have hM3 : IntKind.i64.wrap (7 * IntKind.i64.wrap ((k : Int) + 1)) = 7 * ((k : Int) + 1) := by rw [Zb ((k : Int) + 1) (by omega) (by omega)]; exact Zb _ (by omega) (by omega)
    have hB : IntKind.i64.wrap (bits - 1) = (((bits - 1).toNat : Nat) : Int) := by rw [Zb _ (by omega) (by omega)]; omega
    have nx := aI @hW trivial
    refine' Zgb
    refine AW.loop [0, 1, 2, 3, 8, 11, 12, 13, 14] [11] (fun w st => ∃ (i n : Nat) (c : List V), st = S20 xs a0 bits sg n c k (xs.getD (a0 + k) 0) i /\ i <= 7 /\ w = 7 - i /\ n = 7 * k + i /\ c = Zh .i64 (l ++ (ZaN (xs.getD (a0 + k) 0)).take i) /\ (∀ j, j < i -> ¬Ztj sg bits k (xs.getD (a0 + k) 0) l j)) ?_ ?_
    ·exact ⟨_, 0, l.length, _, rfl, by omega, rfl, by omega, by rw [List.take_zero, List.append_nil], fun j hj => absurd hj (Nat.not_lt_zero _)⟩
    ·rintro w st ⟨i, n, c, rfl, hi, rfl, rfl, rfl, hbad⟩
     have hW2 : IntKind.i64.wrap (((7 * k : Nat) : Int) + (i : Int)) = ((7 * k + i : Nat) : Int) := Zb _ (by omega) (by omega)
     have h7 := ZC1 hx
     have hb7 := Zyh (xs.getD (a0 + k) 0) i
     have hT : i < 7 -> l ++ (ZaN (xs.getD (a0 + k) 0)).take (i + 1) = (l ++ (ZaN (xs.getD (a0 + k) 0)).take i) ++ [ZeH (xs.getD (a0 + k) 0) i] := fun h => by rw [Zp8 _ _ h, Ya6]
     have hG : bits <= ((7 * k + i : Nat) : Int) -> (l ++ (ZaN (xs.getD (a0 + k) 0)).take i).getD (bits - 1).toNat 0 = (l ++ ZaN (xs.getD (a0 + k) 0)).getD (bits - 1).toNat 0 := fun h => Zti _ _ _ _ (by omega)
     have hnb : i = 7 -> ¬ ∃ i, i < 7 /\ Ztj sg bits k (xs.getD (a0 + k) 0) l i := fun h ⟨j, hj, hbj⟩ => hbad j (by omega) hbj
     have hL : i = 7 -> l ++ (ZaN (xs.getD (a0 + k) 0)).take i = l ++ ZaN (xs.getD (a0 + k) 0) /\ 7 * k + i = (l ++ ZaN (xs.getD (a0 + k) 0)).length := fun h => by subst h; exact ⟨rfl, by rw [Yal, hl]; rfl⟩
     have hLn : i <= 7 -> (l ++ (ZaN (xs.getD (a0 + k) 0)).take i).length = 7 * k + i := fun h => by rw [Yal, Yar, Zcr]; omega
     have hLn := hLn hi
     have hOw : bits <= ((7 * k + i : Nat) : Int) -> (Zh .i64 (l ++ (ZaN (xs.getD (a0 + k) 0)).take i)).getD (bits - 1).toNat .any = .int .i64 ((l ++ (ZaN (xs.getD (a0 + k) 0)).take i).getD (bits - 1).toNat 0) := fun h => ZhN (by omega)
     have hTk : (l ++ (ZaN (xs.getD (a0 + k) 0)).take i).take (7 * k + i) = l ++ (ZaN (xs.getD (a0 + k) 0)).take i := Yad (by omega)
     have hA2 : (((a0 + (k + 1) : Nat)) : Int) = ((a0 + k : Nat) : Int) + 1 := by omega
     generalize hxe : xs.getD (a0 + k) 0 = x at *
     cases sg
     ·have nx := aI @hW (aI @hM (aI @hW2 (aI @hB (aI @hW3 (aI @hM3 (aI @hTk trivial))))))
      refine' Zgb
      all_goals try simp (disch := omega) only [NSX, St.keepS, Nat.reduceBEq, Nat.reduceAdd, Nat.reduceMul, Int.reduceToNat, Nat.reduceSub, TY, SLS, List.set_cons_zero, List.set_cons_succ, Za, S20, T20, hW, hM, hW2, hB, hW3, hM3, hTk]
      ·refine ⟨7 - (i + 1), by omega, i + 1, _, Zh .i64 ((l ++ (ZaN x).take i) ++ [ZeH x i]), ?_, by omega, rfl, rfl, by rw [hT (by omega)], ?_⟩
       ·rw [Zb _ (by omega) (by omega)]; rfl
       ·intro j hj hbj
        by_cases hji : j = i
        ·subst hji; exact absurd (hbj.2.2 rfl) (by assumption)
        ·exact hbad j (by omega) hbj
      ·rw [hs, if_pos (.inl ⟨i, by omega, by omega, fun h => (Bool.noConfusion h), fun _ => by assumption⟩)]; exact ⟨rfl, rfl⟩
      ·refine ⟨7 - (i + 1), by omega, i + 1, _, Zh .i64 ((l ++ (ZaN x).take i) ++ [ZeH x i]), ?_, by omega, rfl, rfl, by rw [hT (by omega)], ?_⟩
       ·rw [Zb _ (by omega) (by omega)]; rfl
       ·intro j hj hbj
        by_cases hji : j = i
        ·subst hji; have := hbj.1; omega
        ·exact hbad j (by omega) hbj
      ·have hx128 : x >= 128 := by
        apply Classical.byContradiction; intro hx; rw [if_neg hx] at h7; omega
       rw [hs, if_pos (.inr ⟨by omega, hx128⟩)]; exact ⟨rfl, rfl⟩
      ·have hx128 : x < 128 := by
        apply Classical.byContradiction; intro hx; rw [if_pos (by omega)] at h7; omega
       have hi7 : i = 7 := by omega
       rw [if_neg (by rintro (h | ⟨_, h⟩); exact hnb hi7 h; omega), if_pos hx128] at hs
       rw [hs, (hL hi7).1, (hL hi7).2]; exact ⟨rfl, rfl⟩
      ·have hx128 : x < 128 := by
        apply Classical.byContradiction; intro hx; rw [if_pos (by omega)] at h7; omega
       have hi7 : i = 7 := by omega
       rw [if_neg (by rintro (h | ⟨_, h⟩); exact hnb hi7 h; omega), if_pos hx128] at hs
       rw [hs, (hL hi7).1, (hL hi7).2]; exact ⟨rfl, rfl⟩
      ·have hx128 : x >= 128 := by
        apply Classical.byContradiction; intro hx; rw [if_neg hx] at h7; omega
       have hi7 : i = 7 := by omega
       rw [if_neg (by rintro (h | ⟨h, _⟩); exact hnb hi7 h; omega), if_neg (by omega)] at hs
       refine ⟨xs.length - (a0 + (k + 1)), by omega, k + 1, l ++ ZaN x, ?_, by omega, rfl, by omega, by rw [<- (hL hi7).2, hi7]; omega, by rw [hA2]; exact hs⟩
       rw [(hL hi7).1, (hL hi7).2, Zb _ (by omega) (by omega)]; rfl
     ·have nx := aI @hW (aI @hM (aI @hW2 (aI @hB (aI @hW3 (aI @hM3 (aI @hTk (aI @hG (aI @hOw trivial))))))))
      refine' Zgb
      all_goals try simp (disch := omega) only [NSX, St.keepS, Nat.reduceBEq, Nat.reduceAdd, Nat.reduceMul, Int.reduceToNat, Nat.reduceSub, TY, SLS, List.set_cons_zero, List.set_cons_succ, Za, S20, T20, hW, hM, hW2, hB, hW3, hM3, hTk, hG, hOw]
      ·rw [hs, if_pos (.inl ⟨i, by omega, by omega, fun _ => by assumption, fun h => (Bool.noConfusion h)⟩)]; exact ⟨rfl, rfl⟩
      ·refine ⟨7 - (i + 1), by omega, i + 1, _, Zh .i64 ((l ++ (ZaN x).take i) ++ [ZeH x i]), ?_, by omega, rfl, rfl, by rw [hT (by omega)], ?_⟩
       ·rw [Zb _ (by omega) (by omega)]; rfl
       ·intro j hj hbj
        by_cases hji : j = i
        ·subst hji; exact absurd (by assumption) (hbj.2.1 rfl)
        ·exact hbad j (by omega) hbj
      ·refine ⟨7 - (i + 1), by omega, i + 1, _, Zh .i64 ((l ++ (ZaN x).take i) ++ [ZeH x i]), ?_, by omega, rfl, rfl, by rw [hT (by omega)], ?_⟩
       ·rw [Zb _ (by omega) (by omega)]; rfl
       ·intro j hj hbj
        by_cases hji : j = i
        ·subst hji; have := hbj.1; omega
        ·exact hbad j (by omega) hbj
      ·have hx128 : x >= 128 := by
        apply Classical.byContradiction; intro hx; rw [if_neg hx] at h7; omega
       rw [hs, if_pos (.inr ⟨by omega, hx128⟩)]; exact ⟨rfl, rfl⟩
      ·have hx128 : x < 128 := by
        apply Classical.byContradiction; intro hx; rw [if_pos (by omega)] at h7; omega
       have hi7 : i = 7 := by omega
       rw [if_neg (by rintro (h | ⟨_, h⟩); exact hnb hi7 h; omega), if_pos hx128] at hs
       rw [hs, (hL hi7).1, (hL hi7).2]; exact ⟨rfl, rfl⟩
      ·have hx128 : x < 128 := by
        apply Classical.byContradiction; intro hx; rw [if_pos (by omega)] at h7; omega
       have hi7 : i = 7 := by omega
       rw [if_neg (by rintro (h | ⟨_, h⟩); exact hnb hi7 h; omega), if_pos hx128] at hs
       rw [hs, (hL hi7).1, (hL hi7).2]; exact ⟨rfl, rfl⟩
      ·have hx128 : x >= 128 := by
        apply Classical.byContradiction; intro hx; rw [if_neg hx] at h7; omega
       have hi7 : i = 7 := by omega
       rw [if_neg (by rintro (h | ⟨h, _⟩); exact hnb hi7 h; omega), if_neg (by omega)] at hs
       refine ⟨xs.length - (a0 + (k + 1)), by omega, k + 1, l ++ ZaN x, ?_, by omega, rfl, by omega, by rw [<- (hL hi7).2, hi7]; omega, by rw [hA2]; exact hs⟩
       rw [(hL hi7).1, (hL hi7).2, Zb _ (by omega) (by omega)]; rfl
   ·have hW : IntKind.i64.wrap ((a0 : Int) + (k : Int)) = ((a0 + k : Nat) : Int) := Zb _ (by omega) (by omega)
    have nx := aI @hW trivial
    refine' Zgb
    all_goals try simp (disch := omega) only [NSX, St.keepS, Nat.reduceBEq, Nat.reduceAdd, Nat.reduceMul, Int.reduceToNat, Nat.reduceSub, TY, SLS, List.set_cons_zero, List.set_cons_succ, Za, S20, T20, hW]
    ·rw [Ya7 (by omega)] at hs
     rw [hs]; exact ⟨rfl, rfl⟩
    all_goals (exfalso; omega)
 all_goals (rw [Zbj, if_pos (by omega)]; exact ⟨rfl, rfl⟩)
end Go.Proofs.YtimhmpdfioihlaaGreatDoor
namespace Go.Proofs.YtimhmpdfioihlaaGreatDoor
set_option maxRecDepth 20000
open Go Go.Abs
def val : List Int -> Int
 | [] => 0
 | b :: l => b + 2 * val l
def ZcW (l : List Int) : Prop := ∀ b ∈ l, b = 0 \/ b = 1
theorem Zdy (a b : List Int) : val (a ++ b) = val a + 2 ^ a.length * val b := by
 induction a with
 | nil => simp [val]
 | cons x a ih =>
   simp only [List.cons_append, val, ih, Yag, Int.pow_succ]
   rw [Int.mul_add, Int.mul_comm (2 ^ a.length) 2, Int.mul_assoc]; omega
theorem Zl2 {l : List Int} (h : ZcW l) : 0 <= val l /\ val l < 2 ^ l.length := by
 induction l with
 | nil => exact ⟨by decide, by decide⟩
 | cons x l ih =>
   have h1 := ih (fun b hb => h b (Yaq _ hb))
   have h2 := h x (List.mem_cons_self ..)
   simp only [val, Yag, Int.pow_succ]
   omega
theorem ZhO (x : Int) : ZcW (ZaN x) := by
 intro b hb
 simp only [ZaN, Yav, List.not_mem_nil, or_false] at hb
 rcases hb with rfl | rfl | rfl | rfl | rfl | rfl | rfl <;> exact Zyh _ _
theorem ZcH {a b : List Int} (ha : ZcW a) (hb : ZcW b) : ZcW (a ++ b) := by
 intro x hx; rcases List.mem_append.1 hx with h | h
 ·exact ha x h
 ·exact hb x h
theorem Zyj (sg : Bool) (bits : Int) : ∀ (xs : List Int) (k : Nat) (l : List Int) (at_ : Int), ZcW l -> ZcW (rRd sg bits xs k l at_).1
 | [], _, _, _, _ => by intro b hb; cases hb
 | x :: t, k, l, at_, h => by
   rw [rRd]
   split
   ·intro b hb; cases hb
   ·split
    ·exact ZcH h (ZhO x)
    ·exact Zyj sg bits t (k + 1) _ _ (ZcH h (ZhO x))
theorem Zo9 (sg : Bool) (xs : List Int) (at_ bits : Int) : ZcW (Zbj sg xs at_ bits).1 := by
 rw [Zbj]; split
 ·intro b hb; cases hb
 ·exact Zyj _ _ _ _ _ _ (fun b hb => by cases hb)
theorem Ztl (sg : Bool) (bits : Int) : ∀ (xs : List Int) (k : Nat) (l : List Int) (at_ : Int), (rRd sg bits xs k l at_).1.length <= l.length + 7 * xs.length /\ ((rRd sg bits xs k l at_).2.2 = 0 -> (rRd sg bits xs k l at_).1 ≠ [])
 | [], _, _, _ => ⟨Nat.zero_le _, by rw [rRd]; intro h; cases h⟩
 | x :: t, k, l, at_ => by
   rw [rRd]
   split
   ·exact ⟨Nat.zero_le _, fun h => by cases h⟩
   ·split
    ·refine ⟨by rw [Yal, Zcr, Yag]; omega, fun _ h => ?_⟩
     have := congrArg List.length h
     rw [Yal, Zcr] at this; simp at this
    ·have := Ztl sg bits t (k + 1) (l ++ ZaN x) (at_ + 1)
     rw [Yal, Zcr] at this
     exact ⟨by rw [Yag]; omega, this.2⟩
theorem ZiR (sg : Bool) (xs : List Int) (at_ bits : Int) : (Zbj sg xs at_ bits).1.length <= 7 * xs.length /\ ((Zbj sg xs at_ bits).2.2 = 0 -> (Zbj sg xs at_ bits).1 ≠ []) := by
 rw [Zbj]; split
 ·exact ⟨Nat.zero_le _, fun h => by cases h⟩
 ·have := Ztl sg bits (xs.drop at_.toNat) 0 [] at_
  rw [Yaw] at this
  exact ⟨by simp only [List.length_nil] at this; omega, this.2⟩
theorem Zkx {l : List Int} {i : Nat} {b : Int} (hl : ZcW l) (hi : l.length = i) (h64 : i < 64) (hb : b = 0 \/ b = 1) :
 Zu .or .u64 (val l) (IntKind.u64.wrap (b * 2 ^ min i IntKind.u64.bits)) = val (l ++ [b]) := by
 have h1 := Zl2 hl
 rw [hi] at h1
 have e2 : (2 : Int) ^ (i + 1) <= 2 ^ 64 := by exact_mod_cast Nat.pow_le_pow_right (by decide) (by omega)
 have e3 : (2 : Int) ^ (i + 1) = 2 ^ i * 2 := Int.pow_succ ..
 have e4 : b * 2 ^ i = 0 \/ b * 2 ^ i = 2 ^ i := by rcases hb with rfl | rfl <;> simp
 rw [show min i IntKind.u64.bits = i from Nat.min_eq_left (by show _ <= 64; omega)]
 rw [ZaC (k := .u64) rfl (by omega) (by show _ < (2 : Int) ^ 64; omega), ZlM (k := .u64) i h1.1 h1.2 (by omega) (by show _ < (2 : Int) ^ 64; omega) (.inl rfl), Zdy, hi]
 simp only [val, Int.mul_zero, Int.add_zero]
 rw [Int.mul_comm b]
end Go.Proofs.YtimhmpdfioihlaaGreatDoor
namespace Go.Proofs.YtimhmpdfioihlaaGreatDoor
set_option maxRecDepth 20000
open Go Go.Abs Nat
attribute [local irreducible] AW AWL AC FW CW CWr IntKind.wrap
section
def S21 (v : List Int) (w i x k : Int) : St := { n := 42, slots := [(1, .int .i64 w), (2, .int .i64 i), (3, .ptr 3 0), (7, .int .u64 x), (8, .int .i64 k)], mem := [(3, ⟨true, Zh .u8 v⟩)] }
theorem Zzz {l : List Int} {k : Nat} (h : k < l.length) : le (l.drop k) = l.getD k 0 + 256 * le (l.drop (k + 1)) := by
 rw [List.drop_eq_getElem_cons h, le]; simp [List.getD, h]
theorem ZDz.NM : type_of% @NSX /\ type_of% @St.keepS.eq_1 /\ type_of% @TY /\ type_of% @SLS /\ type_of% @Zas /\ type_of% @Za5 /\ type_of% @dz /\ type_of% @Za /\ type_of% @S21.eq_1 :=
 ⟨NSX, St.keepS.eq_1, @TY, @SLS, @Zas, @Za5, @dz, @Za, @S21.eq_1⟩
open ZDz
theorem Zyv.kp : type_of% (@Zs [0, 1, 2, 3, 6, 7, 8]) := @Zs [0, 1, 2, 3, 6, 7, 8]
theorem Zyv.cl {p : Prop} (h : p := by
 first
  | refine AWL.frzG rfl rfl rfl ?_
  | refine AWL.cC (f := 174) ZCI rfl rfl rfl rfl rfl rfl (Zuc _) ?_
 all_goals (apply_rules (newGoals := .nonDependentOnly) only [dep]; exact ())) : p := h
open Zyv Zs8 in
theorem Zud (v : List Int) (hl : v.length = 16) (hb : bytes v) (w i : Int) : AC Tryz.prog 177 [.fagg (Zh .u8 v), .int .i64 w, .int .i64 i] (fun r m => r = .int .u64 (get v w i) /\ m = []) := by
 by_cases hi : 0 <= i /\ i < Zei w
 ·obtain ⟨i0, rfl⟩ : ∃ i0 : Nat, i = i0 := ⟨i.toNat, by omega⟩
  obtain ⟨h0, h16⟩ := ZyW (w := w) (i := i0) (by omega)
  have e1 := wbe h0
  have e2 : IntKind.i64.wrap ((i0 : Int) * (wb w : Nat)) = ((i0 * wb w : Nat) : Int) := by rw [<- Int.natCast_mul]; exact Zb _ (by omega) (by omega)
  obtain ⟨g, hg⟩ : ∃ g, g = (v.drop (i0 * wb w)).take (wb w) := ⟨_, rfl⟩
  have hgg : get v w i0 = le g := by unfold get; rw [if_pos (by omega), Yap, hg]
  have hby : bytes g := by rw [hg]; exact Zbq (Zfc hb (i0 * wb w)) (wb w)
  have hlt : g.length = wb w := by rw [hg, Yar, Yaw]; omega
  have h8 := (Zpb h0).2.2.2
  have e4 : IntKind.i64.wrap ((wb w : Nat) - 1 : Int) = (wb w : Nat) - 1 := Zb _ (by omega) (by omega)
  have hat : ∀ k, k < wb w -> v.getD (i0 * wb w + k) 0 = g.getD k 0 := fun k hk => by
   rw [hg]; simp only [Yah, List.getElem?_take, if_pos hk, Ya2]
  refine AC.enter Tryz.func177 rfl (Yaa rfl) ?_
  simp only [Tryz.f177]
  have nx := aI @e1 (aI @e2 (aI @e4 trivial))
  refine' ZhH
  all_goals try (exfalso; omega)
  refine AW.loop [1, 2, 3, 7, 8] [3] (fun m st => ∃ k : Nat, st = S21 v w i0 (le (g.drop k)) ((k : Int) - 1) /\ k <= wb w /\ m = k) ?_ ?_
  ·exact ⟨_, wb w, by rw [Ya7 (by omega)]; rfl, Nat.le_refl _, rfl⟩
  ·rintro m st ⟨k, rfl, hk, rfl⟩
   by_cases hk0 : m = 0
   ·subst hk0
    have nx := aI @e1 (aI @e2 trivial)
    refine' ZhH
    all_goals first | exact ⟨trivial, trivial⟩ | exact ⟨rfl, trivial⟩ | exact ⟨rfl, rfl⟩ | exact ⟨trivial, rfl⟩ | exact ⟨by rw [hgg], trivial⟩ | (exfalso; omega) | trace_state
   ·obtain ⟨k, rfl⟩ : ∃ k, m = k + 1 := ⟨m - 1, by omega⟩
    have e5 : (((k + 1 : Nat) : Int) - 1) = (k : Int) := by omega
    have e3 : IntKind.i64.wrap (((i0 * wb w : Nat) : Int) + (k : Int)) = ((i0 * wb w + k : Nat) : Int) := by rw [<- Int.natCast_add]; exact Zb _ (by omega) (by omega)
    have e6 : IntKind.i64.wrap ((k : Int) - 1) = (k : Int) - 1 := Zb _ (by omega) (by omega)
    have e7 := hat k (by omega)
    have hd := Zgj (Zfc hby (k + 1))
    have hx := ZbX hby (k := k) (by omega)
    unfold Zgi at hx
    have hd2 : le (g.drop (k + 1)) < 2 ^ 56 := by
     have : (2 : Int) ^ (8 * (g.drop (k + 1)).length) <= 2 ^ 56 := by exact_mod_cast Nat.pow_le_pow_right (by decide) (by rw [Yaw]; omega)
     omega
    have e8 : IntKind.u64.wrap (le (g.drop (k + 1)) * 256) = le (g.drop (k + 1)) * 256 := ZaC rfl (by omega) (by show _ < (18446744073709551616 : Int); omega)
    have e9 : IntKind.u64.wrap (g.getD k 0) = g.getD k 0 := ZaC rfl hx.1 (by show _ < (18446744073709551616 : Int); omega)
    have e10 : IntKind.u64.wrap (le (g.drop (k + 1)) * 256 + g.getD k 0) = le (g.drop k) := by
     rw [Zzz (l := g) (k := k) (by omega), ZaC rfl (by omega) (by show _ < (18446744073709551616 : Int); omega)]; omega
    have nx := aI @e1 (aI @e2 (aI @e3 (aI @e5 (aI @e6 (aI @e7 (aI @e8 (aI @e9 (aI @e10 trivial))))))))
    refine' ZhH
    all_goals try simp (disch := omega) only [NM, Nat.reduceBEq, reduceAdd, reduceMul, Int.reduceToNat, reduceSub, List.set_cons_zero, List.set_cons_succ, e1, e2, e3, e5, e6, e7, e8, e9, e10]
    all_goals first
     | exact ⟨k, by omega, k, rfl, by omega, rfl⟩
     | (exfalso; omega)
 ·have hg : get v w i = 0 := by unfold get; rw [if_neg hi]
  rw [hg]
  refine AC.enter Tryz.func177 rfl (Yaa rfl) ?_
  simp only [Tryz.f177]
  have nx := trivial
  refine' ZhH
  all_goals first | exact ⟨trivial, trivial⟩ | exact ⟨rfl, trivial⟩ | exact ⟨rfl, rfl⟩ | exact ⟨trivial, rfl⟩ | (exfalso; omega) | trace_state
end
end Go.Proofs.YtimhmpdfioihlaaGreatDoor
namespace Go.Proofs.YtimhmpdfioihlaaGreatDoor
set_option maxRecDepth 20000
open Go Go.Abs
structure Adv (b : List Int) (r r' : Rd) : Prop where
 ok : Zb6 b r'
 pos : r.pos <= r'.pos
 err : r'.err = 0 -> r.err = 0
theorem Adv.refl {b : List Int} {r : Rd} (h : Zb6 b r) : Adv b r r := ⟨h, Int.le_refl _, id⟩
theorem Adv.trans {b : List Int} {r r1 r2 : Rd} (h : Adv b r r1) (h2 : Adv b r1 r2) : Adv b r r2 := ⟨h2.ok, Int.le_trans h.pos h2.pos, fun h0 => h.err (h2.err h0)⟩
theorem ZaF {b : List Int} {r : Rd} (e : Int) (he : e ≠ 0) (h : Zb6 b r) : Adv b r (Z4 r e) := by
 refine ⟨ZcI h e, ?_, ?_⟩
 ·unfold Z4; split <;> exact Int.le_refl _
 ·unfold Z4; split
  ·intro h0; exact absurd h0 he
  ·exact id
theorem ZkD (r : Rd) {e : Int} (he : e ≠ 0) : (Z4 r e).err ≠ 0 := by
 unfold Z4; split
 ·exact he
 ·assumption
theorem Zgm {b : List Int} {r : Rd} (h : Zb6 b r) : Adv b r (Z7 b r).2 /\ ((Z7 b r).2.err = 0 -> r.pos + 1 <= (Z7 b r).2.pos) := by
 refine ⟨⟨ZhP h, ?_, ?_⟩, ?_⟩ <;> unfold Z7 <;> split
 ·exact (ZaF 10 (by decide) h).pos
 ·simp only; omega
 ·exact (ZaF (b := b) 10 (by decide) h).err
 ·exact id
 ·intro h0; exact absurd h0 (ZkD r (by decide))
 ·intro _; simp only; omega
theorem Zgn {b : List Int} (hb : bytes b) {r : Rd} (h : Zb6 b r) : Adv b r (Zab b r).2 := by
 refine ⟨(ZeJ hb h).1, ?_, ?_⟩
 ·unfold Zab; split
  ·exact Int.le_refl _
  ·split
   ·exact (ZaF 10 (by decide) h).pos
   ·rename_i _ c
    have := ZaO hb ⟨h.p0, h.p1⟩ (Classical.not_not.1 c)
    simp only; omega
 ·unfold Zab; split
  ·exact id
  ·split
   ·exact (ZaF (b := b) 10 (by decide) h).err
   ·exact id
theorem ZkE {b : List Int} {r : Rd} {n : Int} (hn : 1 <= n /\ n <= 64) (h : Zb6 b r) : Adv b r (Zfd b n r).2 := by
 refine ⟨Zy5 hn h, ?_, ?_⟩
 ·unfold Zfd; split
  ·exact Int.le_refl _
  ·split
   ·exact (ZaF 10 (by decide) h).pos
   ·rename_i _ c
    have := Zgk hn ⟨h.p0, h.p1⟩ (Classical.not_not.1 c)
    simp only; omega
 ·unfold Zfd; split
  ·exact id
  ·split
   ·exact (ZaF (b := b) 10 (by decide) h).err
   ·exact id
theorem ZtD {b : List Int} {r : Rd} (h : Zb6 b r) : Adv b r (Zfr b r).2 := by
 have hN : Adv b r (ZiT b r).2 := by
  have h1 := ZkE (n := 33) ⟨by decide, by decide⟩ h
  unfold ZiT; simp only; split
  ·exact h1.trans (ZaF 10 (by decide) h1.ok)
  ·exact h1
 have h0 := h.p0; have h1 := h.p1
 unfold Zfr; split
 ·split
  ·exact ⟨⟨by simp only; omega, by simp only; omega⟩, by simp only; omega, id⟩
  ·split
   ·exact ZaF 11 (by decide) h
   ·exact hN
 ·exact hN
theorem Zpj {b : List Int} (hb : bytes b) : ∀ (n : Nat) (r : Rd) (l : List Int), Zb6 b r -> Adv b r (ZgD b n r l).2
 | 0, _, _, h => .refl h
 | n + 1, r, l, h => by
   rw [ZgD]; split
   ·have h1 := Zgn hb h
    exact h1.trans (Zpj hb n _ _ h1.ok)
   ·exact .refl h
theorem Zpk {b : List Int} : ∀ (n : Nat) (r : Rd), Zb6 b r -> Adv b r (ZfL b n r).2
 | 0, _, h => .refl h
 | n + 1, r, h => by
   rw [ZfL]
   have h1 := (Zgm h).1
   exact h1.trans (Zpk n _ h1.ok)
theorem ZnD {b : List Int} (hb : bytes b) (form : Int) {r : Rd} (i : Ins) (h : Zb6 b r) : Adv b r (Zn b form r i).2 := by
 have hN := Zgn hb h
 have hN2 := hN.trans (Zgn hb hN.ok)
 have hB := (Zgm h).1
 unfold Zn
 by_cases c1 : form = 2
 ·rw [if_pos c1]; exact ZtD h
 rw [if_neg c1]
 by_cases c2 : form = 3 \/ form = 5
 ·rw [if_pos c2]; exact hN
 rw [if_neg c2]
 by_cases c3 : form = 4
 ·rw [if_pos c3]
  have hT := hN.trans (Zpj hb (Zab b r).1.toNat _ i.l hN.ok)
  exact hT.trans (Zgn hb hT.ok)
 rw [if_neg c3]
 by_cases c4 : form = 6 \/ form = 7
 ·rw [if_pos c4]; exact hN2
 rw [if_neg c4]
 by_cases c5 : form = 8
 ·rw [if_pos c5]; exact hN2.trans (Zgm hN2.ok).1
 rw [if_neg c5]
 by_cases c6 : form = 9
 ·rw [if_pos c6]; exact ZkE ⟨by decide, by decide⟩ h
 rw [if_neg c6]
 by_cases c7 : form = 10
 ·rw [if_pos c7]; exact ZkE ⟨by decide, by decide⟩ h
 rw [if_neg c7]
 by_cases c8 : form = 11 \/ form = 12
 ·rw [if_pos c8]; exact Zpk 16 r h
 rw [if_neg c8]
 by_cases c9 : form = 13
 ·rw [if_pos c9]; exact hB
 rw [if_neg c9]
 by_cases c10 : form = 14
 ·rw [if_pos c10]
  show Adv b r (if (Z7 b r).1 ≠ 0 then Z4 (Z7 b r).2 10 else (Z7 b r).2)
  by_cases c : (Z7 b r).1 ≠ 0
  ·rw [if_pos c]; exact hB.trans (ZaF 10 (by decide) hB.ok)
  ·rw [if_neg c]; exact hB
 rw [if_neg c10]
 exact .refl h
theorem Zqj {b : List Int} {r : Rd} (op : Int) (h : Zb6 b r) : Adv b r (ZbD op r) := by
 have h3 := ZaF (b := b) 3 (by decide) h
 unfold ZbD; split
 ·split
  ·exact ⟨⟨h3.ok.p0, h3.ok.p1⟩, h3.pos, h3.err⟩
  ·exact ⟨⟨h.p0, h.p1⟩, Int.le_refl _, id⟩
 ·split
  ·exact ZaF 10 (by decide) h
  ·exact ⟨⟨h.p0, h.p1⟩, Int.le_refl _, id⟩
theorem Zy8 {b : List Int} (hb : bytes b) {r : Rd} (h : Zb6 b r) : Adv b r (opS b r).2 /\ ((opS b r).2.err = 0 -> r.pos + 1 <= (opS b r).2.pos) := by
 obtain ⟨hB, hp⟩ := Zgm h
 have hN := Zgn hb hB.ok
 unfold opS; split
 ·exact ⟨hB.trans hN, fun h0 => Int.le_trans (hp (hN.err h0)) hN.pos⟩
 ·split
  ·have hF : Adv b (Zab b (Z7 b r).2).2 (if (Zab b (Z7 b r).2).1 <= 7 then Z4 (Zab b (Z7 b r).2).2 11 else (Zab b (Z7 b r).2).2) := by
    split
    ·exact ZaF 11 (by decide) hN.ok
    ·exact .refl hN.ok
   have hG := ZaF (b := b) 10 (by decide) hF.ok
   refine ⟨hB.trans (hN.trans (hF.trans hG)), fun h0 => ?_⟩
   exact absurd h0 (ZkD _ (by decide))
  ·exact ⟨hB, hp⟩
theorem ZtE {b : List Int} (hb : bytes b) (op : Int) {r : Rd} (h : Zb6 b r) : Adv b r (Zqh b op r).2 := by
 rw [Zd4]
 have h1 : Adv b r (ZkR op r) := by
  unfold ZkR; split
  ·exact ZaF 11 (by decide) h
  ·exact .refl h
 have h2 : Adv b r (ZkS op (ZkR op r)) := by
  unfold ZkS; split
  ·exact h1
  ·exact h1.trans (ZaF 10 (by decide) h1.ok)
 have h3 : Adv b r (Zdp b op (ZkS op (ZkR op r))).2 := by
  unfold Zdp; split
  ·exact h2.trans (ZnD hb _ _ h2.ok)
  ·exact h2
 unfold Zpi; simp only; split
 ·exact h3.trans (Zqj op h3.ok)
 ·exact h3
theorem ZjG {b : List Int} (hb : bytes b) {r : Rd} (h : Zb6 b r) : Adv b r (ZaE b r).2 /\ ((ZaE b r).2.err = 0 -> r.pos + 1 <= (ZaE b r).2.pos) := by
 rw [Zgl]
 obtain ⟨h1, hp⟩ := Zy8 hb h
 have h2 := ZtE hb (opS b r).1 h1.ok
 exact ⟨h1.trans h2, fun h0 => Int.le_trans (hp (h2.err h0)) h2.pos⟩
theorem ZAZ (b : List Int) (r : Rd) : (opS b r).2.op = r.op := by
 unfold opS; split
 ·simp only [Zg4, Zd5]
 ·split
  ·simp only [ZaP]
   split <;> simp only [ZaP, Zg4, Zd5]
  ·exact Zd5 b r
theorem ZwE (b : List Int) (op : Int) (r : Rd) : (Zdp b op r).2.op = r.op := by
 unfold Zdp; split
 ·exact ZjF _ _ _ _
 ·rfl
theorem Zy9 (op : Int) (r : Rd) : (ZkS op r).op = r.op := by
 unfold ZkS; split
 ·rfl
 ·exact ZaP _ _
theorem Zza (op : Int) (r : Rd) : (ZkR op r).op = r.op := by
 unfold ZkR; split
 ·exact ZaP _ _
 ·rfl
theorem Zqk {op : Int} {r : Rd} (h : r.op.length <= 128) (h0 : (ZbD op r).err = 0) : (ZbD op r).op.length <= 128 := by
 unfold ZbD at *; split
 ·rename_i h5
  rw [if_pos h5] at h0
  simp only at h0
  by_cases h128 : r.op.length = 128
  ·rw [if_pos h128] at h0
   exact absurd h0 (ZkD r (by decide))
  ·simp only [Yal, Yag, List.length_nil]; omega
 ·split
  ·rw [ZaP]; exact h
  ·simp only [Yal, Yag, List.length_nil, Yar]; omega
theorem Zql {b : List Int} {r : Rd} (h : r.op.length <= 128) (h0 : (ZaE b r).2.err = 0) : (ZaE b r).2.op.length <= 128 := by
 rw [Zgl, Zd4] at *
 have hop : (Zdp b (opS b r).1 (ZkS (opS b r).1 (ZkR (opS b r).1 (opS b r).2))).2.op = r.op := by rw [ZwE, Zy9, Zza, ZAZ]
 generalize Zdp b (opS b r).1 (ZkS (opS b r).1 (ZkR (opS b r).1 (opS b r).2)) = z at *
 unfold Zpi at *; simp only at *
 split
 ·rename_i c
  rw [if_pos c] at h0
  exact Zqk (by rw [hop]; exact h) h0
 ·rw [hop]; exact h
def Zah (l : List Ins) : List V := l.flatMap Zfy
theorem Zgo (l : List Ins) : (Zah l).length = l.length * 6 := by
 induction l with
 | nil => rfl
 | cons i l ih =>
   have : Zah (i :: l) = Zfy i ++ Zah l := rfl
   rw [this, Yal, ih, Yag]; show 6 + _ = _; omega
theorem ZjH (l : List Ins) (i : Ins) : Zah l ++ Zfy i = Zah (l ++ [i]) := by simp [Zah]
def ZcB (b : List Int) : Nat -> Rd -> List Ins -> List Ins × Int × Int
 | 0, _, _ => ([], 0, 10)
 | n + 1, r, l =>
   if (ZaE b r).2.err ≠ 0 then ([], 0, (ZaE b r).2.err)
   else if (ZaE b r).1.op = 11 then
    if (Zdz (ZaE b r).2).1 = true then (l ++ [(ZaE b r).1], (Zdz (ZaE b r).2).2.pos, 0) else ZcB b n (Zdz (ZaE b r).2).2 (l ++ [(ZaE b r).1])
   else ZcB b n (ZaE b r).2 (l ++ [(ZaE b r).1])
def Z6 (b : List Int) (p : Int) : List Ins × Int × Int := if p < 0 \/ p > b.length then ([], 0, 1) else ZcB b (b.length + 1) ⟨p, [], [], 0⟩ []
abbrev Res (α : Type) := Except (Int × Int) (α × Int)
def bnd {α β : Type} (x : Res α) (f : α -> Int -> Res β) : Res β := match x with
 | .ok (a, t) => f a t
 | .error z => .error z
theorem Zg {α β : Type} (a : α) (t : Int) (f : α -> Int -> Res β) : bnd (.ok (a, t)) f = f a t := rfl
theorem Zd {α β : Type} (z : Int × Int) (f : α -> Int -> Res β) : bnd (.error z) f = .error z := rfl
def Zba (xs : List Int) (p : Int) : Res Int := if p >= xs.length then .error (10, p) else .ok (xs.getD p.toNat 0, p + 1)
def nmT (xs : List Int) (p : Int) : Res Int := if (ZaM xs p 32).2.2 ≠ 0 then .error (10, p) else .ok ((ZaM xs p 32).1, (ZaM xs p 32).2.1)
def Zg5 (xs : List Int) (most : Int) (p : Int) : Res Int := bnd (nmT xs p) fun n t => if n > most then .error (3, t) else .ok (n, t)
def Zhy (xs : List Int) (n p : Int) : Res Int := if n > xs.length - p then .error (10, p) else .ok (p, p + n)
def ZdA (xs : List Int) (p : Int) : Res Int := bnd (nmT xs p) (Zhy xs)
def Zdc (xs : List Int) (p : Int) : Res (List Int) := bnd (ZdA xs p) fun s t => .ok ((xs.drop s.toNat).take (t - s).toNat, t)
def Zej (xs : List Int) (p : Int) : Res (List UInt8) := bnd (Zdc xs p) fun l t => if ZaU l = true then .ok (toS l, t) else .error (10, t)
def ZdB (xs : List Int) (p : Int) : Res Int := bnd (Zba xs p) fun c t => if c = 127 \/ c = 126 \/ c = 123 then .ok (c, t) else if c = 125 \/ c = 124 then .error (11, t) else .error (10, t)
def Zme (xs : List Int) (most : Int) (p : Int) : Res (Int × Int) := bnd (Zba xs p) fun f t => if f > 1 then .error (10, t) else bnd (Zg5 xs most t) fun n t => if f = 1 then bnd (nmT xs t) fun x t => .ok ((n, x), t) else .ok ((n, -1), t)
def Zek (xs : List Int) (p : Int) : Res (List Ins) := if (Z6 xs p).2.2 ≠ 0 then .error ((Z6 xs p).2.2, p) else .ok ((Z6 xs p).1, (Z6 xs p).2.1)
def ZcJ {α : Type} (one : Int -> Res α) : Nat -> Int -> Res (List α)
 | 0, p => .ok ([], p)
 | n + 1, p => bnd (one p) fun a t => bnd (ZcJ one n t) fun l t => .ok (a :: l, t)
def Zv {α : Type} (xs : List Int) (most : Int) (one : Int -> Res α) (p : Int) : Res (List α) := bnd (Zg5 xs most p) fun n t => ZcJ one n.toNat t
def ZaJ (c : Prop) [Decidable c] {α : Type} (x : Int -> Res α) (t : Int) : Res α := if c then x t else .error (10, t)
structure Zmf where
 i : List Int
 o : List Int
 deriving DecidableEq
structure ZkT where
 m : List UInt8
 n : List UInt8
 t : Int
 deriving DecidableEq
structure ZeM where
 t : Int
 mu : Bool
 c : List Ins
 deriving DecidableEq
structure Zmg where
 n : List UInt8
 k : Int
 i : Int
 deriving DecidableEq
structure Zfs where
 c : List Ins
 f : List Int
 deriving DecidableEq
structure Zd6 where
 l : List Int
 c : List Ins
 deriving DecidableEq
structure Zft where
 c : List Ins
 b : List Int
 deriving DecidableEq
structure Mod where
 types : List Zmf
 imports : List ZkT
 funcs : List Int
 tables : List (Int × Int)
 mems : List (Int × Int)
 globals : List ZeM
 exports : List Zmg
 start : Int
 elems : List Zfs
 codes : List Zd6
 datas : List Zft
 deriving DecidableEq
def ZtH (xs : List Int) (p : Int) : Res Zmf := bnd (Zba xs p) fun c t => ZaJ (c = 96) (fun t => bnd (Zv xs 32 (ZdB xs) t) fun i t => bnd (Zv xs 32 (ZdB xs) t) fun o t => .ok (⟨i, o⟩, t)) t
def ZuT (xs : List Int) (p : Int) : Res ZkT := bnd (Zej xs p) fun m t => bnd (Zej xs t) fun n t => bnd (Zba xs t) fun c t => ZaJ (c = 0) (fun t => bnd (nmT xs t) fun i t => .ok (⟨m, n, i⟩, t)) t
def ZtI (xs : List Int) (p : Int) : Res (Int × Int) := bnd (Zba xs p) fun c t => ZaJ (c = 112) (Zme xs 1024) t
def ZiU (xs : List Int) (p : Int) : Res ZeM := bnd (ZdB xs p) fun k t => bnd (Zba xs t) fun c t => ZaJ (c <= 1) (fun t => bnd (Zek xs t) fun e t => .ok (⟨k, c == 1, e⟩, t)) t
def ZuU (xs : List Int) (p : Int) : Res Zmg := bnd (Zej xs p) fun n t => bnd (Zba xs t) fun c t => ZaJ (c <= 3) (fun t => bnd (nmT xs t) fun i t => .ok (⟨n, c, i⟩, t)) t
def ZiV (xs : List Int) (p : Int) : Res Zfs := bnd (nmT xs p) fun c t => ZaJ (c = 0) (fun t => bnd (Zek xs t) fun e t => bnd (Zv xs 1024 (nmT xs) t) fun f t => .ok (⟨e, f⟩, t)) t
def ZiW (xs : List Int) (p : Int) : Res Zft := bnd (nmT xs p) fun c t => ZaJ (c = 0) (fun t => bnd (Zek xs t) fun e t => bnd (Zdc xs t) fun b t => .ok (⟨e, b⟩, t)) t
def Zhz (xs : List Int) : Nat -> List Int -> Int -> Res (List Int)
 | 0, l, p => .ok (l, p)
 | n + 1, l, p => bnd (Zg5 xs (512 - l.length) p) fun k t => bnd (ZdB xs t) fun c t => Zhz xs n (l ++ List.replicate k.toNat c) t
def Zqn (xs : List Int) (p : Int) : Res Zd6 := bnd (nmT xs p) fun n t => bnd (Zhz xs n.toNat [] t) fun l t => bnd (Zek xs t) fun c t => ZaJ (t = xs.length) (fun t => .ok (⟨l, c⟩, t)) t
def inT {α : Type} (xs : List Int) (f : List Int -> Int -> Res α) (s t : Int) : Res α := match f (xs.take t.toNat) s with
 | .ok (a, _) => .ok (a, t)
 | .error (e, _) => .error (e, t)
def ZiX (xs : List Int) (p : Int) : Res Zd6 := bnd (ZdA xs p) (inT xs Zqn)
def ZnE (xs : List Int) (id : Int) (m : Mod) (p : Int) : Res Mod :=
 if id = 1 then bnd (Zv xs 256 (ZtH xs) p) fun l t => .ok ({ m with types := l }, t)
 else if id = 2 then bnd (Zv xs 512 (ZuT xs) p) fun l t => .ok ({ m with imports := l }, t)
 else if id = 3 then bnd (Zv xs 512 (nmT xs) p) fun l t => .ok ({ m with funcs := l }, t)
 else if id = 4 then bnd (Zv xs 512 (ZtI xs) p) fun l t => .ok ({ m with tables := l }, t)
 else if id = 5 then bnd (Zv xs 512 (Zme xs 16) p) fun l t => .ok ({ m with mems := l }, t)
 else if id = 6 then bnd (Zv xs 512 (ZiU xs) p) fun l t => .ok ({ m with globals := l }, t)
 else if id = 7 then bnd (Zv xs 512 (ZuU xs) p) fun l t => .ok ({ m with exports := l }, t)
 else if id = 8 then bnd (nmT xs p) fun l t => .ok ({ m with start := l }, t)
 else if id = 9 then bnd (Zv xs 512 (ZiV xs) p) fun l t => .ok ({ m with elems := l }, t)
 else if id = 10 then bnd (Zv xs 512 (ZiX xs) p) fun l t => .ok ({ m with codes := l }, t)
 else if id = 11 then bnd (Zv xs 512 (ZiW xs) p) fun l t => .ok ({ m with datas := l }, t)
 else .ok (m, p)
def Zg7 (xs : List Int) {α : Type} (a : α) (t : Int) : Res α := ZaJ (t = xs.length) (fun t => .ok (a, t)) t
def Zqo (xs : List Int) (last : Int) (m : Mod) (p : Int) : Res (Int × Mod) :=
 bnd (Zba xs p) fun id t => bnd (ZdA xs t) fun s t =>
  if id = 0 then inT xs (fun ys p => bnd (Zej ys p) fun _ t => .ok ((last, m), t)) s t
  else inT xs (fun ys p => ZaJ (id > last /\ id <= 11) (fun p => bnd (ZnE ys id m p) fun m t => Zg7 ys (id, m) t) p) s t
def Zgp (xs : List Int) : Nat -> Int -> Mod -> Int -> Res Mod
 | 0, _, m, p => .ok (m, p)
 | n + 1, last, m, p => if p < xs.length then bnd (Zqo xs last m p) fun x t => Zgp xs n x.1 x.2 t else .ok (m, p)
def ZiY (xs : List Int) : List Int -> Int -> Res Unit
 | [], p => .ok ((), p)
 | c :: l, p => bnd (Zba xs p) fun x t => ZaJ (x = c) (ZiY xs l) t
def ZeN : Mod := ⟨[], [], [], [], [], [], [], 0, [], [], []⟩
def ZqO (xs : List Int) : Res Mod :=
 bnd (ZiY xs [0, 97, 115, 109, 1, 0, 0, 0] 0) fun _ t => bnd (Zgp xs xs.length 0 { ZeN with start := -1 } t) fun m t => ZaJ (m.codes.length = m.funcs.length) (fun t => .ok (m, t)) t
def ZkU (xs : List Int) : Mod × Int := if xs.length > 16384 then (ZeN, 4) else match ZqO xs with
 | .ok (m, _) => (m, 0)
 | .error (e, _) => (ZeN, e)
end Go.Proofs.YtimhmpdfioihlaaGreatDoor
namespace Go.Proofs.YtimhmpdfioihlaaGreatDoor
set_option maxRecDepth 20000
open Go Go.Abs Nat
attribute [local irreducible] AW AWL AC FW CW CWr IntKind.wrap
section
def Zmn : Ins := ⟨0, 0, 0, 0, 0, []⟩
theorem Zqx (l : List Ins) (k : Nat) : List.drop (k * 6) (Zah l) = Zah (l.drop k) := by
 induction l generalizing k with
 | nil => simp [Zah]
 | cons i l ih =>
   cases k with
   | zero => rfl
   | succ k =>
     have : Zah (i :: l) = Zfy i ++ Zah l := rfl
     rw [this, List.drop_succ_cons, <- ih k, show (k + 1) * 6 = (Zfy i).length + k * 6 by show _ = 6 + _; omega, List.drop_append, Ya7 (by omega), List.nil_append, Nat.add_sub_cancel_left]
theorem Zpx (l : List Ins) {k : Nat} (h : k < l.length) : List.drop (k * 6) (Zah l) = Zfy (l.getD k Zmn) ++ Zah (l.drop (k + 1)) := by
 rw [Zqx]
 have e : l.drop k = l.getD k Zmn :: l.drop (k + 1) := by
  rw [List.drop_eq_getElem_cons h, Yah, Yab h]; rfl
 rw [e]; rfl
theorem ZjK (l : List Ins) {k : Nat} (h : k < l.length) : List.take 6 (List.drop (k * 6) (Zah l)) = Zfy (l.getD k Zmn) := by rw [Zpx l h]; rfl
theorem ZjL (l : List Ins) {k : Nat} (h : k < l.length) : 6 <= (List.drop (k * 6) (Zah l)).length := by rw [Zpx l h, Yal]; show 6 <= 6 + _; omega
def T5s (i1 i2 : Ins) (k : Nat) : St := { n := 66, slots := [(2, .ptr 2 0), (3, .ptr 3 0), (5, .int .i64 (k : Int))], mem := [(2, ⟨false, [.int .i64 i1.op, .int .i64 i1.a, .int .i64 i1.b, .int .u64 i1.lo, .int .u64 i1.hi, .view i1.l.length 1 (Zh .i64 i1.l)]⟩), (3, ⟨false, [.int .i64 i2.op, .int .i64 i2.a, .int .i64 i2.b, .int .u64 i2.lo, .int .u64 i2.hi, .view i2.l.length 1 (Zh .i64 i2.l)]⟩)] }
def T5c (a b : List Ins) (k : Nat) : St := { n := 27, slots := [(0, .view a.length 6 (Zah a)), (1, .view b.length 6 (Zah b)), (5, .int .i64 (k : Int))], mem := [] }
theorem Zmo {α : Type} {a b : List α} (d : α) {k : Nat} (ha : k < a.length) (hb : k < b.length) (h : a.take k = b.take k) (he : a.getD k d = b.getD k d) : a.take (k + 1) = b.take (k + 1) := by
 rw [List.take_add_one, List.take_add_one, h, Yab ha, Yab hb]
 rw [Yah, Yah, Yab ha, Yab hb] at he
 simp only [Option.getD_some] at he
 rw [he]
theorem ZBa.NM : type_of% @MB.NM /\ type_of% @T5s.eq_1 /\ type_of% @T5c.eq_1 :=
 ⟨MB.NM, @T5s.eq_1, @T5c.eq_1⟩
open ZBa
theorem ZFY.kp : type_of% (@Zs [0, 1, 2, 3, 4, 5]) := @Zs [0, 1, 2, 3, 4, 5]
theorem Zzw.cl {p : Prop} (h : p := by
 first
  | refine AWL.frzG rfl rfl rfl ?_
  | refine AWL.cC (f := 104) ZDv rfl rfl rfl rfl rfl rfl (hsi) ?_
 all_goals (apply_rules (newGoals := .nonDependentOnly) only [dep]; exact ())) : p := h
open ZFY ZFF ZeE in
theorem Zw5 (i1 i2 : Ins) (h1 : i1.l.length <= 1000000000000) (h2 : i2.l.length <= 1000000000000) : AC Tryz.prog 104 [.fagg (Zfy i1), .fagg (Zfy i2)] (fun v m => v = .bool (decide (i1 = i2)) /\ m = []) := by
 unfold Zfy
 refine AC.enter Tryz.func104 rfl (Yaa rfl) ?_
 simp only [Tryz.f104]
 by_cases hh : i1.op = i2.op /\ i1.a = i2.a /\ i1.b = i2.b /\ i1.lo = i2.lo /\ i1.hi = i2.hi /\ i1.l.length = i2.l.length
 ·obtain ⟨e1, e2, e3, e4, e5, e6⟩ := hh
  have nx := trivial
  refine' Zgf
  refine AW.loop [2, 3, 5] [2, 3] (fun m st => ∃ k : Nat, st = T5s i1 i2 k /\ k <= i1.l.length /\ i1.l.take k = i2.l.take k /\ m = i1.l.length - k) ?_ ?_
  ·exact ⟨_, 0, rfl, Nat.zero_le _, rfl, rfl⟩
  rintro m st ⟨k, rfl, hk, ht, rfl⟩
  by_cases hkl : k < i1.l.length
  ·have e7 : IntKind.i64.wrap ((k : Int) + 1) = ((k + 1 : Nat) : Int) := Zb _ (by omega) (by omega)
   have hd1 : decide ((k : Int) < (i1.l.length : Int)) = true := Yae (by omega)
   by_cases he : i1.l.getD k 0 = i2.l.getD k 0
   ·have htn := Zmo (0 : Int) hkl (by omega) ht he
    have nx := aI @e7 (aI @hd1 trivial)
    refine' Zgf
    all_goals first
     | exact ⟨i1.l.length - (k + 1), by omega, k + 1, rfl, by omega, htn, rfl⟩
   ·have hne : decide (i1 = i2) = false := Yaf (fun h => he (by rw [h]))
    have nx := aI @e7 (aI @hd1 trivial)
    refine' Zgf
    all_goals first | exact ⟨trivial, trivial⟩ | exact ⟨rfl, trivial⟩ | exact ⟨rfl, rfl⟩ | exact ⟨trivial, rfl⟩ | (rw [hne]; exact ⟨rfl, trivial⟩) | (exfalso; omega) | trace_state
  ·have hk2 : k = i1.l.length := by omega
   have hd1 : decide ((k : Int) < (i1.l.length : Int)) = false := Yaf (by omega)
   rw [hk2, Yau, e6, Yau] at ht
   have hye : decide (i1 = i2) = true := Yae (by cases i1; cases i2; simp only at *; subst e1 e2 e3 e4 e5 ht; rfl)
   have nx := aI @hd1 trivial
   refine' Zgf
   all_goals first | exact ⟨trivial, trivial⟩ | exact ⟨rfl, trivial⟩ | exact ⟨rfl, rfl⟩ | exact ⟨trivial, rfl⟩ | (rw [hye]; exact ⟨rfl, trivial⟩) | (exfalso; omega) | trace_state
 ·have hne : decide (i1 = i2) = false := Yaf (fun h => hh (by rw [h]; exact ⟨rfl, rfl, rfl, rfl, rfl, rfl⟩))
  have nx := trivial
  refine' Zgf
  all_goals first | exact ⟨trivial, trivial⟩ | exact ⟨rfl, trivial⟩ | exact ⟨rfl, rfl⟩ | exact ⟨trivial, rfl⟩ | (rw [hne]; exact ⟨rfl, trivial⟩) | (exfalso; omega) | trace_state
open Zzw ZfK ZeE in
theorem Zzx (a b : List Ins) (ha : a.length <= 1000000000000) (hb : b.length <= 1000000000000) (hla : ∀ i ∈ a, i.l.length <= 1000000000000) (hlb : ∀ i ∈ b, i.l.length <= 1000000000000) : AC Tryz.prog 58 [.view a.length 6 (Zah a), .view b.length 6 (Zah b)] (fun v m => v = .bool (decide (a = b)) /\ m = []) := by
 have hsi : True := trivial
 refine AC.enter Tryz.func58 rfl (Yaa rfl) ?_
 simp only [Tryz.f58]
 by_cases hl : a.length = b.length
 ·have nx := trivial
  refine' Zgd
  refine AW.loop [0, 1, 5] [] (fun m st => ∃ k : Nat, st = T5c a b k /\ k <= a.length /\ a.take k = b.take k /\ m = a.length - k) ?_ ?_
  ·exact ⟨_, 0, rfl, Nat.zero_le _, rfl, rfl⟩
  rintro m st ⟨k, rfl, hk, ht, rfl⟩
  by_cases hkl : k < a.length
  ·have e7 : IntKind.i64.wrap ((k : Int) + 1) = ((k + 1 : Nat) : Int) := Zb _ (by omega) (by omega)
   have hd1 : decide ((k : Int) < (a.length : Int)) = true := Yae (by omega)
   have l1 := ZjK a hkl
   have l2 := ZjK b (k := k) (by omega)
   have r1 := ZjL a hkl
   have r2 := ZjL b (k := k) (by omega)
   have m1 := hla (a.getD k Zmn) (by rw [Yah, Yab hkl]; exact List.getElem_mem _)
   have m2 := hlb (b.getD k Zmn) (by rw [Yah, Yab (show k < b.length by omega)]; exact List.getElem_mem _)
   have hsi := Zw5 _ _ m1 m2
   by_cases he : a.getD k Zmn = b.getD k Zmn
   ·have htn := Zmo Zmn hkl (by omega) ht he
    rw [Yae he] at hsi
    have nx := aI @e7 (aI @hd1 (aI @l1 (aI @l2 trivial)))
    refine' Zgd
    all_goals first
     | exact ⟨a.length - (k + 1), by omega, k + 1, rfl, by omega, htn, rfl⟩
   ·have hne : decide (a = b) = false := Yaf (fun h => he (by rw [h]))
    rw [Yaf he] at hsi
    have nx := aI @e7 (aI @hd1 (aI @l1 (aI @l2 trivial)))
    refine' Zgd
    all_goals first | exact ⟨trivial, trivial⟩ | exact ⟨rfl, trivial⟩ | exact ⟨rfl, rfl⟩ | exact ⟨trivial, rfl⟩ | (rw [hne]; exact ⟨rfl, trivial⟩) | (exfalso; omega) | trace_state
  ·have hk2 : k = a.length := by omega
   have hd1 : decide ((k : Int) < (a.length : Int)) = false := Yaf (by omega)
   rw [hk2, Yau, hl, Yau] at ht
   have hye : decide (a = b) = true := Yae ht
   have nx := aI @hd1 trivial
   refine' Zgd
   all_goals first | exact ⟨trivial, trivial⟩ | exact ⟨rfl, trivial⟩ | exact ⟨rfl, rfl⟩ | exact ⟨trivial, rfl⟩ | (rw [hye]; exact ⟨rfl, trivial⟩) | (exfalso; omega) | trace_state
 ·have hne : decide (a = b) = false := Yaf (fun h => hl (by rw [h]))
  have nx := trivial
  refine' Zgd
  all_goals first | exact ⟨trivial, trivial⟩ | exact ⟨rfl, trivial⟩ | exact ⟨rfl, rfl⟩ | exact ⟨trivial, rfl⟩ | (rw [hne]; exact ⟨rfl, trivial⟩) | (exfalso; omega) | trace_state
end
section
def tpM (k : Nat) (b : List Int) (p : Int) (en : Nat) : Mem := [(k, ⟨false, [.view b.length 1 (Zh .u8 b), .int .i64 p, .int .i64 en]⟩)]
def ZwG (e : Int) : List PanicEntry := [{ v := .iface 96 (.agg #[.int .i64 e]), recovered := false }]
def OKR {α : Type} (x : Res α) (enc : α -> V) (b : List Int) (en : Nat) (v : V) (m : Mem) : Prop := match x with
 | .ok (a, t) => v = enc a /\ m = tpM 0 b t en
 | .error _ => False
def ERR {α : Type} (x : Res α) (b : List Int) (en : Nat) (ch : List PanicEntry) (m : Mem) : Prop := match x with
 | .ok _ => False
 | .error (e, t) => ch = ZwG e /\ m = tpM 0 b t en
def TF {α : Type} (f : FuncId) (args : List V) (b : List Int) (en : Nat) (p : Int) (x : Res α) (enc : α -> V) : Prop := AMP Tryz.prog f (.ptr 0 0 :: args) (tpM 0 b p en) [0] (OKR x enc b en) (ERR x b en)
structure okT (b : List Int) (p : Int) (en : Nat) : Prop where
 hb : bytes b
 hl : b.length <= 100000000
 he : en <= b.length
 p0 : 0 <= p
 p1 : p <= en
theorem okT.len {b : List Int} {p : Int} {en : Nat} (h : okT b p en) : (b.take en).length = en := by rw [Yar]; have := h.he; omega
theorem okT.byt {b : List Int} {p : Int} {en : Nat} (h : okT b p en) : bytes (b.take en) := fun x hx => h.hb x (List.mem_of_mem_take hx)
theorem okT.mv {b : List Int} {p t : Int} {en : Nat} (h : okT b p en) (h1 : p <= t) (h2 : t <= en) : okT b t en := ⟨h.hb, h.hl, h.he, Int.le_trans h.p0 h1, h2⟩
open MB
open Znq ZFF Zl in
theorem ZcX (e : Int) : AMP Tryz.prog 74 [.int .i64 e] [] [] (fun _ _ => False) (fun ch m => ch = ZwG e /\ m = []) := by
 refine AMP.enter Tryz.func74 rfl (Yaa rfl) (fun pn => ?_)
 simp only [Tryz.f74]
 have nx := trivial
 refine' Zwa
 all_goals first | exact ⟨trivial, trivial⟩ | exact ⟨rfl, trivial⟩ | exact ⟨rfl, rfl⟩ | exact ⟨trivial, rfl⟩ | (exfalso; omega) | trace_state
end
end Go.Proofs.YtimhmpdfioihlaaGreatDoor
namespace Go.Proofs.YtimhmpdfioihlaaGreatDoor
set_option maxRecDepth 20000
open Go Go.Abs
structure Tq where
 p : Int
 e : Int
 deriving DecidableEq
def Za2 (t : Tq) (e : Int) : Tq := if t.e = 0 then { t with e := e } else t
def Z5 (c : Bool) (t : Tq) : Tq := if c = true then t else Za2 t 10
def ZbZ (xs : List Int) (t : Tq) : Int × Tq := if t.e ≠ 0 \/ t.p >= xs.length then (0, Za2 t 10) else (xs.getD t.p.toNat 0, { t with p := t.p + 1 })
def Zaj (xs : List Int) (t : Tq) : Int × Tq := if t.e ≠ 0 then (0, t) else if (Zar xs t.p).2 < 0 then (0, Za2 t 10) else ((Zar xs t.p).1, { t with p := (Zar xs t.p).2 })
def ZaK (xs : List Int) (most : Int) (t : Tq) : Int × Tq := if (Zaj xs t).1 > most then (0, Za2 (Zaj xs t).2 3) else Zaj xs t
def ZcD (xs : List Int) (t : Tq) : List Int × Tq :=
 if (Zaj xs t).2.e = 0 /\ (Zaj xs t).1 > xs.length - (Zaj xs t).2.p then ([], Za2 (Zaj xs t).2 10)
 else if (Zaj xs t).2.e ≠ 0 then ([], (Zaj xs t).2)
 else ((xs.drop (Zaj xs t).2.p.toNat).take (Zaj xs t).1.toNat, { (Zaj xs t).2 with p := (Zaj xs t).2.p + (Zaj xs t).1 })
def ZeV (xs : List Int) (t : Tq) : List UInt8 × Tq := (toS (ZcD xs t).1, Z5 (ZaU (ZcD xs t).1) (ZcD xs t).2)
def Zc0 (xs : List Int) (t : Tq) : Int × Tq :=
 ((ZbZ xs t).1, Z5 (decide ((ZbZ xs t).1 = 127 \/ (ZbZ xs t).1 = 126 \/ (ZbZ xs t).1 = 123)) (if (ZbZ xs t).1 = 125 \/ (ZbZ xs t).1 = 124 then Za2 (ZbZ xs t).2 11 else (ZbZ xs t).2))
def ZbL {α : Type} (one : Tq -> α × Tq) : Nat -> Tq -> List α × Tq
 | 0, t => ([], t)
 | n + 1, t => if t.e = 0 then ((one t).1 :: (ZbL one n (one t).2).1, (ZbL one n (one t).2).2) else ([], t)
def Zcs (xs : List Int) (t : Tq) : List Int × Tq := ZbL (Zc0 xs) (ZaK xs 32 t).1.toNat (ZaK xs 32 t).2
def Zg8 (xs : List Int) (most : Int) (t : Tq) : List Int × Tq := ZbL (Zaj xs) (ZaK xs most t).1.toNat (ZaK xs most t).2
def Zi3 (xs : List Int) (most : Int) (t : Tq) : (Int × Int) × Tq :=
 if (ZbZ xs t).1 = 1 then
  (((ZaK xs most (Z5 (decide ((ZbZ xs t).1 <= 1)) (ZbZ xs t).2)).1, (Zaj xs (ZaK xs most (Z5 (decide ((ZbZ xs t).1 <= 1)) (ZbZ xs t).2)).2).1), (Zaj xs (ZaK xs most (Z5 (decide ((ZbZ xs t).1 <= 1)) (ZbZ xs t).2)).2).2)
 else (((ZaK xs most (Z5 (decide ((ZbZ xs t).1 <= 1)) (ZbZ xs t).2)).1, -1), (ZaK xs most (Z5 (decide ((ZbZ xs t).1 <= 1)) (ZbZ xs t).2)).2)
def ZbP (xs : List Int) (t : Tq) : List Ins × Tq := if t.e ≠ 0 then ([], t) else if (Z6 xs t.p).2.2 ≠ 0 then ([], Za2 t (Z6 xs t.p).2.2) else ((Z6 xs t.p).1, { t with p := (Z6 xs t.p).2.1 })
def Agr {α : Type} (x : Res α) (y : α × Tq) : Prop := match x with
 | .ok (a, q) => y = (a, ⟨q, 0⟩)
 | .error (e, q) => y.2 = ⟨q, e⟩ /\ e ≠ 0
theorem Zxa (xs : List Int) (p : Int) : Agr (Zba xs p) (ZbZ xs ⟨p, 0⟩) := by
 unfold Zba ZbZ Agr
 by_cases h : p >= xs.length
 ·rw [if_pos h, if_pos (.inr h)]; exact ⟨rfl, by decide⟩
 ·rw [if_neg h, if_neg (fun hh => hh.elim (fun h => h rfl) h)]
theorem Zxb {xs : List Int} (hb : bytes xs) {p : Int} (hp : 0 <= p /\ p <= xs.length) : Agr (nmT xs p) (Zaj xs ⟨p, 0⟩) := by
 have hs := ZaO hb hp
 have h1 : Zaj xs ⟨p, 0⟩ = if (Zar xs p).2 < 0 then (0, Za2 ⟨p, 0⟩ 10) else ((Zar xs p).1, ⟨(Zar xs p).2, 0⟩) := if_neg (fun h => h rfl)
 rw [h1]
 unfold nmT Agr Zar
 by_cases h : (ZaM xs p 32).2.2 ≠ 0
 ·simp only [if_pos h]
  rw [if_pos (by decide)]; exact ⟨rfl, by decide⟩
 ·have := hs (Classical.not_not.1 h)
  simp only [if_neg h]
  rw [if_neg (by omega)]
theorem Zi4 (xs : List Int) {t : Tq} (h : t.e ≠ 0) : Zaj xs t = (0, t) := if_pos h
theorem ZzC (xs : List Int) {t : Tq} (h : t.e ≠ 0) : ZbZ xs t = (0, t) := by
 unfold ZbZ
 rw [if_pos (.inl h)]; unfold Za2; rw [if_neg h]
end Go.Proofs.YtimhmpdfioihlaaGreatDoor
