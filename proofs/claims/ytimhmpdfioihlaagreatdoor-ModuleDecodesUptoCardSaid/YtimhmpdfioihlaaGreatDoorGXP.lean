/- number. -/
import Derived.Test.YtimhmpdfioihlaaGreatDoorDP
import Derived.Test.YtimhmpdfioihlaaGreatDoorGWords
import Derived.Test.YtimhmpdfioihlaaGreatDoorGCB
import Derived.Test.YtimhmpdfioihlaaGreatDoorRows
import Derived.Lib.LaidU8
set_option linter.unusedSimpArgs false
set_option linter.unusedVariables false
set_option maxHeartbeats 12800000
namespace Go.Proofs.YtimhmpdfioihlaaGreatDoor
set_option maxRecDepth 20000
open Go Go.Abs
attribute [local irreducible] AW AWL AC FW CW CWr IntKind.wrap
def dig (c : UInt8) : Int := if (c.toNat : Int) >= 97 then (c.toNat : Int) - 97 + 10 else ((c.toNat : Int) - 48) % 256
theorem Zl5 (c : UInt8) : 0 <= dig c /\ dig c <= 255 := by
 have := c.toNat_lt
 unfold dig; split <;> omega
def Zl6 (b : Int) (s : List UInt8) : Nat -> Int
 | 0 => 0
 | i + 1 => Zl6 b s i * b + dig (s.getD i 0)
def Zwt (b : Int) (s : List UInt8) : Int := Zl6 b s s.length
theorem Zqa {b : Int} (hb : b = 10 \/ b = 16) (s : List UInt8) (i : Nat) (hi : i <= 6) : 0 <= Zl6 b s i /\ Zl6 b s i <= 10000000000 := by
 have h0 : ∀ i, 0 <= Zl6 b s i /\ Zl6 b s i <= 17 * 16 ^ i - 17 := by
  intro i
  induction i with
  | zero => exact ⟨Int.le_refl _, by rw [Zl6]; decide⟩
  | succ i ih =>
    have hd := Zl5 (s.getD i 0)
    have hp : (1 : Int) <= 16 ^ i := by have : (0 : Int) < 16 ^ i := Int.pow_pos (by decide); omega
    rw [Zl6, Int.pow_succ]
    rcases hb with rfl | rfl <;> constructor <;> omega
 have := h0 i
 have hp : (16 : Int) ^ i <= 16 ^ 6 := by exact_mod_cast Nat.pow_le_pow_right (by decide) hi
 simp only [Int.reducePow] at hp; omega
def N6 (s : List UInt8) (b x i : Int) : St := { n := 35, slots := [(0, .str s), (1, .int .i64 b), (4, .int .i64 0), (5, .int .i64 x), (6, .int .i64 i)], mem := [] }
theorem Zwu.sd {p : Prop} (h : p := by first | exact Zvq) : p := h
open Zwu Zno in
theorem ZiS (s : List UInt8) (b : Int) (hs : s.length <= 5) (hb : b = 10 \/ b = 16) : AC Tryz.prog 163 [.str s, .int .i64 b] (fun r m => r = .int .i64 (Zwt b s) /\ m = []) := by
 refine AC.enter Tryz.func163 rfl (Yaa rfl) ?_
 simp only [Tryz.f163]
 have nx := trivial
 refine' ZhM
 refine AW.loop [0, 1, 4, 5, 6] [] (fun m st => ∃ (i : Nat), st = N6 s b (Zl6 b s i) i /\ i <= s.length /\ m = s.length - i) ?_ ?_
 ·exact ⟨_, 0, rfl, Nat.zero_le _, rfl⟩
 rintro m st ⟨i, rfl, hi, rfl⟩
 have e5 : IntKind.i64.wrap ((i : Int) + 1) = ((i + 1 : Nat) : Int) := Zb _ (by omega) (by omega)
 by_cases hin : i < s.length
 ·have hx := Zqa hb s i (by omega)
  have hm : Zl6 b s i * b <= 160000000000 /\ 0 <= Zl6 b s i * b := by rcases hb with rfl | rfl <;> omega
  have e6 : IntKind.i64.wrap (Zl6 b s i * b) = Zl6 b s i * b := Zb _ (by omega) (by omega)
  have hd := Zl5 (s.getD i 0)
  have hlt := (s.getD i 0).toNat_lt
  have hn : Zl6 b s (i + 1) = Zl6 b s i * b + dig (s.getD i 0) := rfl
  have e7 : IntKind.i64.wrap (Zl6 b s i * b + dig (s.getD i 0)) = Zl6 b s (i + 1) := by rw [hn]; exact Zb _ (by omega) (by omega)
  have e8 : IntKind.i64.wrap (IntKind.u8.wrap (((s.getD i 0).toNat : Int) - 48)) = (((s.getD i 0).toNat : Int) - 48) % 256 := by
   rw [show IntKind.u8.wrap (((s.getD i 0).toNat : Int) - 48) = (((s.getD i 0).toNat : Int) - 48) % 256 from ZaY (k := .u8) rfl _]; exact Zb _ (by omega) (by omega)
  by_cases h97 : ((s.getD i 0).toNat : Int) >= 97
  ·have hdd : dig (s.getD i 0) = ((s.getD i 0).toNat : Int) - 97 + 10 := if_pos h97
   have e9 : IntKind.i64.wrap (IntKind.u8.wrap (((s.getD i 0).toNat : Int) - 97)) = ((s.getD i 0).toNat : Int) - 97 := by
    rw [ZaC (k := .u8) rfl (by omega) (by show _ < (256 : Int); omega)]; exact Zb _ (by omega) (by omega)
   have e10 : IntKind.i64.wrap (((s.getD i 0).toNat : Int) - 97 + 10) = dig (s.getD i 0) := by rw [hdd]; exact Zb _ (by omega) (by omega)
   have nx := aI @e5 (aI @e6 (aI @e8 (aI @e9 (aI @e10 (aI @e7 trivial)))))
   refine' ZhM
   all_goals try simp (disch := omega) only [NSX, St.keepS, Nat.reduceBEq, Nat.reduceAdd, Nat.reduceMul, Int.reduceToNat, Nat.reduceSub, TY, List.set_cons_zero, List.set_cons_succ, SLS, Za, Zag, Zo, N6, e5]
   all_goals first
    | exact ⟨s.length - (i + 1), by omega, i + 1, rfl, by omega, rfl⟩
    | (exfalso; omega) | trace_state
  ·have hdd : (((s.getD i 0).toNat : Int) - 48) % 256 = dig (s.getD i 0) := (if_neg h97).symm
   have nx := aI @e5 (aI @e6 (aI @e8 (aI @hdd (aI @e7 trivial))))
   refine' ZhM
   all_goals try simp (disch := omega) only [NSX, St.keepS, Nat.reduceBEq, Nat.reduceAdd, Nat.reduceMul, Int.reduceToNat, Nat.reduceSub, TY, List.set_cons_zero, List.set_cons_succ, SLS, Za, Zag, Zo, N6, e5]
   all_goals first
    | exact ⟨s.length - (i + 1), by omega, i + 1, rfl, by omega, rfl⟩
    | (exfalso; omega) | trace_state
 ·obtain rfl : i = s.length := by omega
  have nx := trivial
  refine' ZhM
  all_goals first | exact ⟨trivial, trivial⟩ | exact ⟨rfl, trivial⟩ | exact ⟨rfl, rfl⟩ | exact ⟨trivial, rfl⟩ | (exfalso; omega) | trace_state
def ZAM (c : UInt8) : List Int := if (c.toNat : Int) = 105 then [127] else if (c.toNat : Int) = 108 then [126] else if (c.toNat : Int) = 118 then [123] else []
def ZyY (s : List UInt8) : Nat -> List Int
 | 0 => []
 | i + 1 => ZyY s i ++ ZAM (s.getD i 0)
def Zpe (s : List UInt8) : List Int := ZyY s s.length
theorem Zwv (s : List UInt8) (i : Nat) : (ZyY s i).length <= i := by
 induction i with
 | zero => exact Nat.le_refl _
 | succ i ih =>
   rw [ZyY, Yal]
   have : (ZAM (s.getD i 0)).length <= 1 := by unfold ZAM; split <;> (try split) <;> (try split) <;> simp
   omega
def Y4 (s : List UInt8) (L : List Int) (i : Int) : St := { n := 33, slots := [(0, .str s), (2, .ref 2 0 0 1), (3, .ref 3 0 L.length 1), (4, .int .i64 i)], mem := [(3, ⟨true, Zh .i64 L⟩)] }
theorem ZC8.sd {p : Prop} (h : p := by first | exact ZvD) : p := h
open ZC8 ZiL in
theorem Zpf (s : List UInt8) (hs : s.length <= 1000) : AC Tryz.prog 164 [.str s] (fun r m => r = .ref 2 0 (Zpe s).length 1 /\ m = [(2, Zh .i64 (Zpe s))]) := by
 refine AC.enter Tryz.func164 rfl (Yaa rfl) ?_
 simp only [Tryz.f164]
 have nx := trivial
 refine' Zfa
 refine AW.loop [0, 2, 3, 4] [3] (fun m st => ∃ (i : Nat), st = Y4 s (ZyY s i) i /\ i <= s.length /\ m = s.length - i) ?_ ?_
 ·exact ⟨_, 0, rfl, Nat.zero_le _, rfl⟩
 rintro m st ⟨i, rfl, hi, rfl⟩
 have e5 : IntKind.i64.wrap ((i : Int) + 1) = ((i + 1 : Nat) : Int) := Zb _ (by omega) (by omega)
 have hl := Zwv s i
 by_cases hin : i < s.length
 ·have hn : ZyY s (i + 1) = ZyY s i ++ ZAM (s.getD i 0) := rfl
  unfold ZAM at hn
  by_cases h1 : ((s.getD i 0).toNat : Int) = 105
  ·rw [if_pos h1] at hn
   have nx := aI @e5 (aI @h1 trivial)
   refine' Zfa
   all_goals try simp (disch := omega) only [NSX, St.keepS, Nat.reduceBEq, Nat.reduceAdd, Nat.reduceMul, Int.reduceToNat, Nat.reduceSub, TY, List.set_cons_zero, List.set_cons_succ, SLS, Za, Zag, Zo, Y4, e5]
   all_goals first
    | exact ⟨s.length - (i + 1), by omega, i + 1, by rw [hn, Yal, List.length_singleton], by omega, rfl⟩
    | (exfalso; omega) | trace_state
  ·by_cases h2 : ((s.getD i 0).toNat : Int) = 108
   ·rw [if_neg h1, if_pos h2] at hn
    have nx := aI @e5 (aI @h2 trivial)
    refine' Zfa
    all_goals try simp (disch := omega) only [NSX, St.keepS, Nat.reduceBEq, Nat.reduceAdd, Nat.reduceMul, Int.reduceToNat, Nat.reduceSub, TY, List.set_cons_zero, List.set_cons_succ, SLS, Za, Zag, Zo, Y4, e5]
    all_goals first
     | exact ⟨s.length - (i + 1), by omega, i + 1, by rw [hn, Yal, List.length_singleton], by omega, rfl⟩
     | (exfalso; omega) | trace_state
   ·by_cases h3 : ((s.getD i 0).toNat : Int) = 118
    ·rw [if_neg h1, if_neg h2, if_pos h3] at hn
     have nx := aI @e5 (aI @h3 trivial)
     refine' Zfa
     all_goals try simp (disch := omega) only [NSX, St.keepS, Nat.reduceBEq, Nat.reduceAdd, Nat.reduceMul, Int.reduceToNat, Nat.reduceSub, TY, List.set_cons_zero, List.set_cons_succ, SLS, Za, Zag, Zo, Y4, e5]
     all_goals first
      | exact ⟨s.length - (i + 1), by omega, i + 1, by rw [hn, Yal, List.length_singleton], by omega, rfl⟩
      | (exfalso; omega) | trace_state
    ·rw [if_neg h1, if_neg h2, if_neg h3, List.append_nil] at hn
     have nx := aI @e5 trivial
     refine' Zfa
     all_goals try simp (disch := omega) only [NSX, St.keepS, Nat.reduceBEq, Nat.reduceAdd, Nat.reduceMul, Int.reduceToNat, Nat.reduceSub, TY, List.set_cons_zero, List.set_cons_succ, SLS, Za, Zag, Zo, Y4, e5]
     all_goals first
      | exact ⟨s.length - (i + 1), by omega, i + 1, by first | (rw [hn]; done) | (rw [hn]; rfl), by omega, rfl⟩
      | (exfalso; omega) | trace_state
 ·obtain rfl : i = s.length := by omega
  have nx := trivial
  refine' Zfa
  all_goals first | exact ⟨trivial, trivial⟩ | exact ⟨rfl, trivial⟩ | exact ⟨rfl, rfl⟩ | exact ⟨trivial, rfl⟩ | (exfalso; omega) | trace_state
def ZB7 : List (Int × Int) := [(42, 43), (56, 57), (67, 68), (91, 102), (139, 166), (168, 171), (174, 191), (64787, 64788), (64799, 64802), (64833, 64844), (64862, 64863), (64871, 64874), (64884, 64885), (64890, 64890), (64916, 64916), (64992, 65023)]
def Zz4 : List Int := [42, 43, 56, 57, 67, 68, 91, 102, 139, 166, 168, 171, 174, 191, 64787, 64788, 64799, 64802, 64833, 64844, 64862, 64863, 64871, 64874, 64884, 64885, 64890, 64890, 64916, 64916, 64992, 65023]
def flS (op : Int) : Bool := ZB7.any fun p => decide (p.1 <= op /\ op <= p.2)
theorem Zd3 (op : Int) : flS op = true ↔ ((42 <= op /\ op <= 43) \/ (56 <= op /\ op <= 57) \/ (67 <= op /\ op <= 68) \/ (91 <= op /\ op <= 102) \/ (139 <= op /\ op <= 166) \/ (168 <= op /\ op <= 171) \/ (174 <= op /\ op <= 191) \/ (64787 <= op /\ op <= 64788) \/ (64799 <= op /\ op <= 64802) \/ (64833 <= op /\ op <= 64844) \/ (64862 <= op /\ op <= 64863) \/ (64871 <= op /\ op <= 64874) \/ (64884 <= op /\ op <= 64885) \/ (64890 <= op /\ op <= 64890) \/ (64916 <= op /\ op <= 64916) \/ (64992 <= op /\ op <= 65023)) := by
 simp only [flS, ZB7, List.any_cons, List.any_nil, Bool.or_false, Bool.or_eq_true, Yaz]
theorem Zym {op : Int} (h : flS op = true ↔ True) : V.bool true = V.bool (flS op) := by rw [h.2 trivial]
theorem ZAN {op : Int} (h : flS op = true -> False) : V.bool false = V.bool (flS op) := by
 cases e : flS op with
 | false => rfl
 | true => exact (h e).elim
theorem Zyn {P : Prop} [Decidable P] {op : Int} (h : P ↔ flS op = true) : V.bool (decide P) = V.bool (flS op) := by
 cases e : flS op with
 | false => rw [Yaf (fun hp => by rw [h.1 hp] at e; cases e)]
 | true => rw [Yae (h.2 e)]
def Zb5 (k : Nat) : Int × Int := ZB7.getD k (0, -1)
theorem ZAO : ∀ k : Nat, k < 16 -> Zz4.getD (2 * k) 0 = (Zb5 k).1 /\ Zz4.getD (2 * k + 1) 0 = (Zb5 k).2 := by
 intro k hk
 have : ∀ j : Fin 16, Zz4.getD (2 * j.val) 0 = (Zb5 j.val).1 /\ Zz4.getD (2 * j.val + 1) 0 = (Zb5 j.val).2 := by decide
 exact this ⟨k, hk⟩
theorem ZC9 {op : Int} {k : Nat} (hk : k < 16) (h : (Zb5 k).1 <= op /\ op <= (Zb5 k).2) : flS op = true := by
 unfold flS; rw [List.any_eq_true]
 exact ⟨Zb5 k, by unfold Zb5; rw [Yah, Yab (by show k < 16; exact hk)]; exact List.getElem_mem _, Yae h⟩
theorem ZyZ {op : Int} (h : ∀ j, j < 16 -> ¬((Zb5 j).1 <= op /\ op <= (Zb5 j).2)) : flS op = false := by
 cases e : flS op with
 | false => rfl
 | true =>
   unfold flS at e; rw [List.any_eq_true] at e
   obtain ⟨p, hp, h2⟩ := e
   obtain ⟨j, hj, rfl⟩ := List.mem_iff_getElem.1 hp
   refine absurd (of_decide_eq_true h2) ?_
   have := h j hj
   rw [show Zb5 j = ZB7[j] from by unfold Zb5; rw [Yah, Yab hj]; rfl] at this
   exact this
def F3 (op : Int) (L : List Int) (i : Int) : St := { n := 27, slots := [(0, .int .i64 op), (2, .bool false), (3, .ref 3 0 32 1), (4, .int .i64 i)], mem := [(3, ⟨true, Zh .i64 L⟩)] }
open ZiL in
theorem Zl7 (op : Int) : AC Tryz.prog 160 [.int .i64 op] (fun r m => r = .bool (flS op) /\ m = []) := by
 obtain ⟨L, hL⟩ : ∃ L, Zz4 = L := ⟨_, rfl⟩
 have hfa := ZAO
 have hLl : Zz4.length = 32 := rfl
 rw [hL] at hfa hLl
 refine AC.enter Tryz.func160 rfl (Yaa rfl) ?_
 simp only [Tryz.f160]
 have nx := trivial
 refine' ZhK
 refine AW.loop [0, 2, 3, 4] [3] (fun m st => ∃ (i : Nat), st = F3 op L ((2 * i : Nat) : Int) /\ i <= 16 /\ m = 16 - i /\ ∀ j, j < i -> ¬((Zb5 j).1 <= op /\ op <= (Zb5 j).2)) ?_ ?_
 ·exact ⟨_, 0, by rw [<- hL]; rfl, Nat.zero_le _, rfl, fun j hj => absurd hj (Nat.not_lt_zero _)⟩
 rintro m st ⟨i, rfl, hi, rfl, hall⟩
 have e5 : IntKind.i64.wrap (((2 * i : Nat) : Int) + 2) = ((2 * (i + 1) : Nat) : Int) := by rw [Zb _ (by omega) (by omega)]; omega
 have e6 : IntKind.i64.wrap (((2 * i : Nat) : Int) + 1) = ((2 * i + 1 : Nat) : Int) := by rw [Zb _ (by omega) (by omega)]; omega
 by_cases hin : i < 16
 ·obtain ⟨g1, g2⟩ := hfa i hin
  by_cases h : (Zb5 i).1 <= op /\ op <= (Zb5 i).2
  ·have hf := ZC9 hin h
   obtain ⟨h1, h2⟩ := h
   have nx := aI @e5 (aI @e6 (aI @g1 (aI @g2 (aI @hLl trivial))))
   refine' ZhK
   all_goals first | exact ⟨trivial, trivial⟩ | exact ⟨rfl, trivial⟩ | exact ⟨rfl, rfl⟩ | exact ⟨trivial, rfl⟩ | (rw [hf]; exact ⟨rfl, trivial⟩) | (exfalso; omega) | trace_state
  ·have hall2 : ∀ j, j < i + 1 -> ¬((Zb5 j).1 <= op /\ op <= (Zb5 j).2) := fun j hj => by
    by_cases e : j < i
    ·exact hall j e
    ·obtain rfl : j = i := by omega
     exact h
   have nx := aI @e5 (aI @e6 (aI @g1 (aI @g2 (aI @hLl trivial))))
   refine' ZhK
   all_goals try simp (disch := omega) only [NSX, St.keepS, Nat.reduceBEq, Nat.reduceAdd, Nat.reduceMul, Int.reduceToNat, Nat.reduceSub, TY, List.set_cons_zero, List.set_cons_succ, SLS, Za, Zag, Zo, F3, e5]
   all_goals first
    | exact ⟨16 - (i + 1), by omega, i + 1, rfl, by omega, rfl, hall2⟩
    | (exfalso; omega) | trace_state
 ·obtain rfl : i = 16 := by omega
  have hf := ZyZ hall
  have nx := trivial
  refine' ZhK
  all_goals first | exact ⟨trivial, trivial⟩ | exact ⟨rfl, trivial⟩ | exact ⟨rfl, rfl⟩ | exact ⟨trivial, rfl⟩ | (rw [hf]; exact ⟨rfl, trivial⟩) | (exfalso; omega) | trace_state
def S33 (l : List Int) (x i : Int) : St := { n := 22, slots := [(3, .int .u64 x), (6, .view l.length 1 (Zh .u8 l)), (7, .int .i64 l.length), (8, .int .i64 i)], mem := [] }
theorem ZEm {c : Int} {k : Nat} (hc : Zgi c) (hk : k < 8) : IntKind.u64.wrap (c * 2 ^ min (8 * (k : Int)).toNat IntKind.u64.bits) = c * 2 ^ (8 * k) := by
 have e : min (8 * (k : Int)).toNat IntKind.u64.bits = 8 * k := by rw [Nat.min_eq_left (by show _ <= 64; omega)]; omega
 rw [e]
 unfold Zgi at hc
 have hp : (0 : Int) < 2 ^ (8 * k) := Int.pow_pos (by decide)
 have h1 : c * 2 ^ (8 * k) <= 255 * 2 ^ (8 * k) := Int.mul_le_mul_of_nonneg_right hc.2 (by omega)
 have h2 : (2 : Int) ^ (8 * (k + 1)) <= 2 ^ 64 := by exact_mod_cast Nat.pow_le_pow_right (by decide) (by omega)
 rw [ZB6] at h2
 exact ZaC rfl (Int.mul_nonneg hc.1 (by omega)) (by show _ < (2 : Int) ^ 64; omega)
theorem or8 {x c : Int} {k : Nat} (hx : 0 <= x /\ x < 2 ^ (8 * k)) (hc : Zgi c) (hk : k < 8) : Zu .or .u64 x (c * 2 ^ (8 * k)) = x + c * 2 ^ (8 * k) := by
 unfold Zgi at hc
 have hp : (0 : Int) < 2 ^ (8 * k) := Int.pow_pos (by decide)
 have h1 : c * 2 ^ (8 * k) <= 255 * 2 ^ (8 * k) := Int.mul_le_mul_of_nonneg_right hc.2 (by omega)
 have h2 : (2 : Int) ^ (8 * (k + 1)) <= 2 ^ 64 := by exact_mod_cast Nat.pow_le_pow_right (by decide) (by omega)
 rw [ZB6] at h2
 exact ZlM (k := .u64) (8 * k) hx.1 hx.2 hc.1 (by show _ < (2 : Int) ^ 64; omega) (.inl rfl)
theorem ZAT.sd {p : Prop} (h : p := by first | exact Zvw) : p := h
open ZAT ZsZ in
theorem Zy2 (l : List Int) (hb : bytes l) (hl : l.length <= 8) : AC Tryz.prog 176 [.view l.length 1 (Zh .u8 l)] (fun r m => r = .int .u64 (le l) /\ m = []) := by
 refine AC.enter Tryz.func176 rfl (Yaa rfl) ?_
 simp only [Tryz.f176]
 have nx := trivial
 refine' Zki
 refine AW.loop [3, 6, 7, 8] [] (fun n st => ∃ (k : Nat), st = S33 l (le (l.take k)) k /\ k <= l.length /\ n = l.length - k) ?_ ?_
 ·exact ⟨_, 0, rfl, Nat.zero_le _, rfl⟩
 ·rintro n st ⟨k, rfl, hk, rfl⟩
  by_cases hkl : k < l.length
  ·have hc := ZbX hb hkl
   have hx := Zgj (Zbq hb k)
   rw [Yar, Nat.min_eq_left (by omega)] at hx
   have e1 := ZEm hc (by omega : k < 8)
   have e2 := or8 hx hc (by omega : k < 8)
   have e3 : IntKind.u64.wrap (l.getD k 0) = l.getD k 0 := by unfold Zgi at hc; exact ZaC rfl hc.1 (by show _ < (18446744073709551616 : Int); omega)
   have e4 : IntKind.i64.wrap (8 * (k : Int)) = 8 * k := Zb _ (by omega) (by omega)
   have e5 : IntKind.i64.wrap ((k : Int) + 1) = k + 1 := Zb _ (by omega) (by omega)
   have nx := aI @e1 (aI @e2 (aI @e3 (aI @e4 (aI @e5 trivial))))
   refine' Zki
   all_goals try simp (disch := omega) only [NSX, St.keepS, Nat.reduceBEq, Nat.reduceAdd, Nat.reduceMul, Int.reduceToNat, Nat.reduceSub, TY, SLS, List.set_cons_zero, List.set_cons_succ, Zas, Za5, dz, Za, S33, e1, e2, e3, e4, e5]
   all_goals first
    | exact ⟨l.length - (k + 1), by omega, k + 1, by rw [Zny hkl]; rfl, by omega, rfl⟩
  ·have nx := trivial
   refine' Zki
   all_goals try simp (disch := omega) only [NSX, St.keepS, Nat.reduceBEq, Nat.reduceAdd, Nat.reduceMul, Int.reduceToNat, Nat.reduceSub, TY, SLS, List.set_cons_zero, List.set_cons_succ, Zas, Za5, dz, Za, S33]
   ·rw [Yad (by omega)]; exact ⟨rfl, trivial⟩
theorem Ztu (n : Nat) (l : List Int) (hn : n = l.length) (hb : bytes l) (hl : l.length <= 8) : AC Tryz.prog 176 [.view n 1 (Zh .u8 l)] (fun r m => r = .int .u64 (le l) /\ m = []) := by
 subst hn; exact Zy2 l hb hl
end Go.Proofs.YtimhmpdfioihlaaGreatDoor
namespace Go.Abs
set_option maxRecDepth 20000
open Go Go.RowKit
section
section
variable {P : Program} {C : Ctx} {st st' : St} {a : Act} {w : World} {l : List Oper} {o : Oper} {Q : Exit -> St -> Prop} {L : Array Bool} {n : Nat}
def AT (P : Program) (l : List Oper) (Q : Exit -> St -> Prop) (L : Array Bool) (n : Nat) (st : St) : Prop :=
 ∀ (C : Ctx) (a : Act) (w : World) (ls : List Nat), Zer l L ls -> SRx C st a w -> wpAny P .any l.toArray (AQ C Q) n L a w
theorem Za8 {p : Nat -> Prop} {a : Nat} (h : p a) : ∀ j ∈ [a], p j := fun j hj => by rw [List.mem_singleton.1 hj]; exact h
theorem ZfM {p : Nat -> Prop} {a b : Nat} (h : p a) (h2 : p b) : ∀ j ∈ [a, b], p j := fun j hj => by
 rcases Yav.1 hj with rfl | hj
 ·exact h
 ·exact Za8 h2 j hj
def ATQ (Q : Exit -> St -> Prop) (X : St -> Prop) : Exit -> St -> Prop := fun e s => match e with
 | .normal => X s
 | e => Q e s
theorem Zy6 {K : Act -> World -> Prop} {Q1 Q2 : Exit -> Act -> World -> Prop} (h1 : ∀ c, Q1 (.panic c) = Q2 (.panic c)) (h2 : Q1 .outgrown = Q2 .outgrown) (r : Result Next) : o.upon P a K Q1 r = o.upon P a K Q2 r := by
 have h3 : LetsOut Q1 = LetsOut Q2 := by unfold LetsOut; rw [h2]
 unfold Oper.upon
 split <;> simp only [h1, h3]
theorem Zqg {X : St -> Prop} {K : Act -> World -> Prop} {i : Nat} (hK : ∀ a w, (∃ s, X s /\ SRx C s a w) -> K a w) (ho : l[i]? = some o) (h : wpList P l.toArray (AQ C (ATQ Q X)) [o] a w) : wpOp P l.toArray (AQ C Q) i K a w := by
 unfold wpOp
 rw [show l.toArray[i]? = some o from by simpa using ho]
 simp only
 have h : (if Region.wanted o (yielded l.toArray a.tmps) then o.wp P a w (wpList P l.toArray (AQ C (ATQ Q X)) []) (AQ C (ATQ Q X)) \/ (o.asks P a w /\ LetsOut (AQ C (ATQ Q X))) else wpList P l.toArray (AQ C (ATQ Q X)) [] (a.put o.dst undef) w) := h
 have hk : ∀ a w, wpList P l.toArray (AQ C (ATQ Q X)) [] a w -> K a w := fun a w ⟨s, hs, hr⟩ => hK a w ⟨s, hs, hr⟩
 split at h
 ·rename_i hw
  rw [if_pos hw]
  rcases h with h | ⟨h1, h2⟩
  ·refine .inl (Oper.wp_mono hk ?_)
   unfold Oper.wp at h ⊢
   have e := Zy6 (P := P) (o := o) (a := a) (K := wpList P l.toArray (AQ C (ATQ Q X)) []) (Q1 := AQ C (ATQ Q X)) (Q2 := AQ C Q) (fun _ => rfl) rfl ((execOp a.eval o).run P w)
   rw [e] at h
   exact h
  ·exact .inr ⟨h1, h2⟩
 ·rename_i hw
  rw [if_neg hw]
  exact hk _ _ h
theorem AW.drawT {id : Nat} {L0 : Array Bool} (hL : Array.replicate l.length false = L0) (hm : P.follows .mixedOrders = true) (h : AT P l Q L0 l.length st) : AW P (.region id l.toArray true) Q st := fun C a w hs => by
 subst hL
 refine wp_region_any hm ?_
 have hsz : l.toArray.size = l.length := by simp
 rw [hsz]
 have hnone0 : ∀ j, ¬ LS (Array.replicate l.length false) j := fun j hL => by
  unfold LS at hL
  simp only [Yan, Array.getElem?_replicate] at hL
  split at hL <;> cases hL
 obtain ⟨S, β, hs⟩ := hs
 refine h C a _ [] ⟨by simp, List.nodup_nil, fun j => ?_, fun j hj => (by cases hj), fun i o _ hL => absurd hL (hnone0 _)⟩ (hs.drawn _)
 constructor
 ·intro h; cases h
 ·intro h; exact absurd h (hnone0 _)
theorem AT.step (R : List Nat) (hR : Region.ready .any l.toArray L = R) (hne : R ≠ [])
 (h : ∀ i ∈ R, ∃ o L', l[i]? = some o /\ L.setIfInBounds i true = L' /\ AWL P l.toArray [o] (ATQ Q (AT P l Q L' n)) st) : AT P l Q L (n + 1) st := fun C a w ls hl hs => by
 refine wpAny_all hR hne fun i hi => ?_
 obtain ⟨o, L', ho, rfl, hA⟩ := h i hi
 have hi' : i ∈ Region.ready .any l.toArray L := by rw [hR]; exact hi
 exact Zqg (fun a' w' ⟨s, h1, h2⟩ => h1 C a' w' _ (hl.step hi') h2) ho (hA C a w hs)
theorem AT.done (hR : Region.ready .any l.toArray L = []) (h : Q .normal st) : AT P l Q L n st := fun C a w ls hl hs => wpAny_done hR ⟨st, h, hs⟩ n
theorem Zy7 (hpan : Zcx Q) {d : Nat} {v : Value} : ∀ c (a : Act) (w : World), AQ C Q (.panic c) (a.put (some d) v) w -> AQ C Q (.panic c) a w := fun c a w ⟨s, hq, S, β, hs⟩ => ⟨_, hpan c s d hq, S, β, hs.unput⟩
theorem AT.takeM (i : Nat) {L' : Array Bool} {d : Nat} {x : Operand} (ho : l[i]? = some o) (hg : o.guard = none) (hd : o.dst = some d) (hop : o.op = .move x) (hdn : Nat.ble (d + 1) st.n = true) (hpan : Zcx Q)
 (hchk : (Region.noSelect l.toArray && Region.free .any l.toArray L i && (Region.ready .any l.toArray L).contains i) = true) (hL : L.setIfInBounds i true = L') (h : AT P l Q L' n (st.put d (st.ev x))) : AT P l Q L (n + 1) st := fun C a w ls hl ⟨S, β, hs⟩ => by
 subst hL
 simp only [Yao] at hchk
 refine wpAny_take (v := a.eval x) (by simpa using ho) hchk.1.1 hchk.1.2 hchk.2 ?_ (.inl ⟨by simp [Region.wanted, hg], fun w => ?_⟩) ?_
 ·rw [hd]; exact Zy7 hpan
 ·unfold execOp; simp [hop]
 ·rw [hd]
  exact h C _ w _ (hl.step (by simpa using hchk.2)) ⟨S, β, hs.put (Yaa hdn) (Zac hs x)⟩
theorem AT.takeN (i : Nat) {L' : Array Bool} {d k off : Nat} {x : Operand} (ho : l[i]? = some o) (hg : o.guard = none) (hd : o.dst = some d) (hop : o.op = .nilCheck x) (hx : st.ev x = .ptr k off) (hdn : Nat.ble (d + 1) st.n = true) (hpan : Zcx Q)
 (hchk : (Region.noSelect l.toArray && Region.free .any l.toArray L i && (Region.ready .any l.toArray L).contains i) = true) (hL : L.setIfInBounds i true = L') (h : AT P l Q L' n (st.put d (.ptr k off))) : AT P l Q L (n + 1) st := fun C a w ls hl ⟨S, β, hs⟩ => by
 subst hL
 simp only [Yao] at hchk
 have h0 := Zac hs x
 rw [hx] at h0
 obtain ⟨bi, hbi, hu⟩ := VR.ptr_inv h0
 refine wpAny_take (v := .pointer (some ⟨bi.blk, bi.off + off, none⟩)) (by simpa using ho) hchk.1.1 hchk.1.2 hchk.2 ?_ (.inl ⟨by simp [Region.wanted, hg], fun w => ?_⟩) ?_
 ·rw [hd]; exact Zy7 hpan
 ·unfold execOp; simp [hop, hu]
 ·rw [hd]
  exact h C _ w _ (hl.step (by simpa using hchk.2)) ⟨S, β, hs.put (Yaa hdn) (.ptr k off bi hbi)⟩
theorem AT.takeF (i : Nat) {L' : Array Bool} {d k off f o2 m : Nat} {bb : Bool} {t ty : TypeId} {x : Operand} (ho : l[i]? = some o) (hg : o.guard = none) (hd : o.dst = some d) (hop : o.op = .fieldAddr t x f) (hx : st.ev x = .ptr k off) (hf : Zz6 P t f = some (o2, bb, m, ty)) (hm : Nat.ble 1 m = true) (hdn : Nat.ble (d + 1) st.n = true) (hpan : Zcx Q)
 (hchk : (Region.noSelect l.toArray && Region.free .any l.toArray L i && (Region.ready .any l.toArray L).contains i) = true) (hL : L.setIfInBounds i true = L') (h : AT P l Q L' n (st.put d (.ptr k (off + o2)))) : AT P l Q L (n + 1) st := fun C a w ls hl ⟨S, β, hs⟩ => by
 subst hL
 simp only [Yao] at hchk
 have h0 := Zac hs x
 rw [hx] at h0
 obtain ⟨bi, hbi, hu⟩ := VR.ptr_inv h0
 obtain ⟨fs, g, hfs, hg2, rfl, hb, hn⟩ := Zh1 hf
 have hpos : m ≠ 0 := by have := Yaa hm; omega
 refine wpAny_take (v := .pointer (some ⟨bi.blk, bi.off + (off + g.offset), none⟩)) (by simpa using ho) hchk.1.1 hchk.1.2 hchk.2 ?_ (.inl ⟨by simp [Region.wanted, hg], fun w => ?_⟩) ?_
 ·rw [hd]; exact Zy7 hpan
 ·unfold execOp; simp [hop, hu, Instr.fieldAt, run_underlying hfs, hg2, Instr.sureAddr, fieldPlace, ZcN hn, hpos, ZaG, Nat.add_assoc]
 ·rw [hd]
  exact h C _ w _ (hl.step (by simpa using hchk.2)) ⟨S, β, hs.put (Yaa hdn) (.ptr k (off + g.offset) bi hbi)⟩
theorem AT.via (L1 : Array Bool) (n1 : Nat) (s1 : St) (h1 : AT P l Q L1 n1 s1) (h2 : AT P l Q L1 n1 s1 -> AT P l Q L n st) : AT P l Q L n st := h2 h1
theorem AT.keep (is ks : List Nat) (h : AT P l Q L n (st.keep is ks)) : AT P l Q L n st := fun C a w ls hl ⟨S, β, hs⟩ => h C a w ls hl ⟨S, β, hs.keep is ks⟩
end
end
end Go.Abs
namespace Go.Proofs.YtimhmpdfioihlaaGreatDoor
set_option maxRecDepth 20000
open Go Go.Abs
theorem Zpn {l : List Int} {k : Nat} (h : Zg6 l = some k) : 1 <= k /\ k <= l.length := by
 unfold Zg6 at h
 split at h
 ·cases h
 ·repeat' split at h
  all_goals first
   | (cases h; done)
   | (simp only [Yac] at h; subst h; simp only [Yag]; omega)
theorem Zmi : ∀ (n m : Nat) (l : List Int), l.length <= n -> l.length <= m -> ZeL n l = ZeL m l
 | 0, 0, _, _, _ => rfl
 | 0, m + 1, l, h, _ => by
   have : l = [] := Yay (by omega)
   subst this; rw [ZeL, ZeL, if_pos rfl]
 | n + 1, 0, l, _, h => by
   have : l = [] := Yay (by omega)
   subst this; rw [ZeL, ZeL, if_pos rfl]
 | n + 1, m + 1, l, h1, h2 => by
   rw [ZeL, ZeL]
   split
   ·rfl
   ·cases hs : Zg6 l with
    | none => rfl
    | some k =>
      have := Zpn hs
      exact Zmi n m _ (by rw [Yaw]; omega) (by rw [Yaw]; omega)
theorem ZfN {l : List Int} (hne : l ≠ []) : ZaU l = match Zg6 l with
 | none => false
 | some k => ZaU (l.drop k) := by
 unfold ZaU
 cases hl : l.length with
 | zero => exact absurd (Yay hl) hne
 | succ n =>
   rw [ZeL, if_neg hne]
   cases hs : Zg6 l with
   | none => rfl
   | some k =>
     have := Zpn hs
     exact Zmi _ _ _ (by rw [Yaw]; omega) (Nat.le_refl _)
theorem ZjI : ZaU [] = true := rfl
theorem ZjJ {c : Int} {l : List Int} (h : c < 128) : ZaU (c :: l) = ZaU l := by
 rw [ZfN (List.cons_ne_nil _ _)]
 have : Zg6 (c :: l) = some 1 := if_pos h
 rw [this]; rfl
theorem ZiZ : ∀ (n : Nat) (l : List Int), n <= l.length -> (∀ x ∈ l.take n, x < 128) -> ZaU l = ZaU (l.drop n)
 | 0, l, _, _ => by rw [List.drop_zero]
 | n + 1, [], h, _ => by simp at h
 | n + 1, c :: l, h, ha => by
   rw [ZjJ (ha c (by simp)), List.drop_succ_cons]
   exact ZiZ n l (by simpa using h) fun x hx => ha x (by simp [hx])
theorem ZnF : ∀ c : Fin 256, 128 <= c.val ->
 ((c.val < 194 \/ c.val > 244) /\ Zco.getD c.val 0 = 241) \/ ((194 <= c.val /\ c.val <= 223) /\ Zco.getD c.val 0 = 2) \/ (c.val = 224 /\ Zco.getD c.val 0 = 19) \/ (((225 <= c.val /\ c.val <= 236) \/ (238 <= c.val /\ c.val <= 239)) /\ Zco.getD c.val 0 = 3) \/
 (c.val = 237 /\ Zco.getD c.val 0 = 35) \/ (c.val = 240 /\ Zco.getD c.val 0 = 52) \/ ((241 <= c.val /\ c.val <= 243) /\ Zco.getD c.val 0 = 4) \/ (c.val = 244 /\ Zco.getD c.val 0 = 68) := by decide +kernel
theorem ZtK (a b : Nat) : (a &&& b = 0) ↔ (a % 256 &&& b % 256 = 0 /\ a / 256 &&& b / 256 = 0) := by
 have h1 : (a &&& b) % 256 = a % 256 &&& b % 256 := by
  have := @Nat.and_mod_two_pow a b 8
  simpa using this
 have h2 : (a &&& b) / 256 = a / 256 &&& b / 256 := by
  have := @Nat.and_div_two_pow a b 8
  simpa using this
 rw [<- h1, <- h2]
 omega
theorem ZA2 : ∀ x : Fin 256, (x.val &&& 128 = 0) ↔ x.val < 128 := by decide +kernel
def ZeO : Nat -> Nat
 | 0 => 0
 | n + 1 => 128 + 256 * ZeO n
theorem ZtL : ∀ (l : List Int), bytes l -> ((le l).toNat &&& ZeO l.length = 0 ↔ ∀ x ∈ l, x < 128)
 | [], _ => by simp [le]
 | x :: l, h => by
   have hx := h x (List.mem_cons_self ..)
   have hl : bytes l := fun y hy => h y (Yaq _ hy)
   have h0 := Zgj hl
   unfold Zgi at hx
   rw [ZtK, le, Yag, ZeO]
   have e1 : (x + 256 * le l).toNat % 256 = x.toNat := by omega
   have e2 : (x + 256 * le l).toNat / 256 = (le l).toNat := by omega
   have e3 : (128 + 256 * ZeO l.length) % 256 = 128 := by omega
   have e4 : (128 + 256 * ZeO l.length) / 256 = ZeO l.length := by omega
   rw [e1, e2, e3, e4, ZtL l hl]
   have := ZA2 ⟨x.toNat, by omega⟩
   simp only at this
   rw [this]
   simp only [Yav, forall_eq_or_imp]
   constructor
   ·rintro ⟨h1, h2⟩; exact ⟨by omega, h2⟩
   ·rintro ⟨h1, h2⟩; exact ⟨by omega, h2⟩
theorem Zzb (a b m : Nat) : ((a ||| b) &&& m = 0) ↔ (a &&& m = 0 /\ b &&& m = 0) := by
 rw [Nat.and_or_distrib_right]
 exact Nat.or_eq_zero_iff
theorem ZtM {a b : Int} (ha : 0 <= a /\ a < 18446744073709551616) (hb : 0 <= b /\ b < 18446744073709551616) : Zu .or .u64 a b = ((a.toNat ||| b.toNat : Nat) : Int) /\ (a.toNat ||| b.toNat) < 18446744073709551616 := by
 have h2 : (a.toNat ||| b.toNat) < 2 ^ 64 := Nat.or_lt_two_pow (by omega) (by omega)
 refine ⟨?_, h2⟩
 unfold Zu
 simp only [BitVec.toNat_or]
 rw [ZaX (w := IntKind.u64.bits) ha.1 (by show a < 2 ^ 64; omega), ZaX (w := IntKind.u64.bits) hb.1 (by show b < 2 ^ 64; omega)]
 exact ZaC rfl (by omega) (by show _ < (2 : Int) ^ 64; exact_mod_cast h2)
theorem ZwI {a b : Int} (ha : 0 <= a /\ a < 18446744073709551616) (hb : 0 <= b /\ b < 18446744073709551616) : Zu .and .u64 a b = ((a.toNat &&& b.toNat : Nat) : Int) := by
 have h2 : (a.toNat &&& b.toNat) < 2 ^ 64 := Nat.and_lt_two_pow _ (by omega)
 unfold Zu
 simp only [BitVec.toNat_and]
 rw [ZaX (w := IntKind.u64.bits) ha.1 (by show a < 2 ^ 64; omega), ZaX (w := IntKind.u64.bits) hb.1 (by show b < 2 ^ 64; omega)]
 exact ZaC rfl (by omega) (by show _ < (2 : Int) ^ 64; exact_mod_cast h2)
theorem Zmj {a : Int} (ha : 0 <= a /\ a < 18446744073709551616) : Zu .and .u64 a 9259542123273814144 = ((a.toNat &&& ZeO 8 : Nat) : Int) := by
 rw [ZwI ha ⟨by decide, by decide⟩]; rfl
theorem ZtN {a : Int} (ha : 0 <= a /\ a < 18446744073709551616) (h : a.toNat &&& ZeO 8 = 0) : (Zu .and .u64 a 9259542123273814144 == 0) = true := by
 rw [Zmj ha, h]; rfl
theorem ZtO {a : Int} (ha : 0 <= a /\ a < 18446744073709551616) (h : ¬ a.toNat &&& ZeO 8 = 0) : (Zu .and .u64 a 9259542123273814144 == 0) = false := by
 rw [Zmj ha, Yam]
 exact fun h2 => h (Int.natCast_eq_zero.1 h2)
theorem Zdd {l : List Int} (hb : bytes l) (h : 8 <= l.length) : 0 <= le (l.take 8) /\ le (l.take 8) < 18446744073709551616 := by
 have hw := Zgj (Zbq hb 8)
 rw [Yar, Nat.min_eq_left (by omega)] at hw
 exact ⟨hw.1, by have := hw.2; omega⟩
theorem Zi0 {l : List Int} (hb : bytes l) (h : 8 <= l.length) (hz : (le (l.take 8)).toNat &&& ZeO 8 = 0) : ZaU l = ZaU (l.drop 8) := by
 have hm := ZtL (l.take 8) (Zbq hb 8)
 rw [Yar, Nat.min_eq_left (by omega)] at hm
 exact ZiZ 8 l h (hm.1 hz)
theorem ZwJ {a b : Int} (ha : 0 <= a /\ a < 18446744073709551616) (hb : 0 <= b /\ b < 18446744073709551616) : 0 <= Zu .or .u64 a b /\ Zu .or .u64 a b < 18446744073709551616 := by
 have := ZtM ha hb
 rw [this.1]; omega
theorem ZwK {a b : Int} (ha : 0 <= a /\ a < 18446744073709551616) (hb : 0 <= b /\ b < 18446744073709551616) (m : Nat) : ((Zu .or .u64 a b).toNat &&& m = 0) ↔ (a.toNat &&& m = 0 /\ b.toNat &&& m = 0) := by
 rw [(ZtM ha hb).1, Yap]; exact Zzb _ _ _
theorem ZfO {l q : List Int} {k : Nat} (h : l.drop k = q) (hb : bytes l) : bytes q /\ q.length = l.length - k /\ List.take (l.length - k) q = q := by
 have hz : q.length = l.length - k := by rw [<- h, Yaw]
 exact ⟨fun x hx => hb x (List.mem_of_mem_drop (h ▸ hx)), hz, by rw [<- hz]; exact Yau⟩
theorem gV0 : gV 0 = .vptr (Zh .u8 Zco) := rfl
theorem gV1 : gV 1 = .vptr (Zh .u8 Zaa) := rfl
theorem ZtP : Zco.length = 256 := rfl
theorem ZwL {xs : List Int} {k : Nat} {x : Int} (h : k < xs.length) (hx : xs.getD k 0 = x) : vi ((List.drop k (List.map (V.int .u8) xs)).getD 0 .any) = x := by
 rw [Yah, Ya2, Nat.add_zero, Yas, Yab h, <- hx, Yah, Yab h]; rfl
theorem Zqp {c : Int} (hc : Zgi c) (h : ¬ c < 128) (l : List Int) : ∃ x : Int, Zco.getD c.toNat 0 = x /\
 ((x = 241 /\ Zg6 (c :: l) = none) \/
  (x = 2 /\ Zg6 (c :: l) = if 1 <= l.length /\ 128 <= l.getD 0 0 /\ l.getD 0 0 <= 191 then some 2 else none) \/
  ((x = 19 \/ x = 3 \/ x = 35) /\ Zg6 (c :: l) = if 2 <= l.length /\ Zaa.getD (2 * (x / 16).toNat) 0 <= l.getD 0 0 /\ l.getD 0 0 <= Zaa.getD (2 * (x / 16).toNat + 1) 0 /\ 128 <= l.getD 1 0 /\ l.getD 1 0 <= 191 then some 3 else none) \/
  ((x = 52 \/ x = 4 \/ x = 68) /\ Zg6 (c :: l) = if 3 <= l.length /\ Zaa.getD (2 * (x / 16).toNat) 0 <= l.getD 0 0 /\ l.getD 0 0 <= Zaa.getD (2 * (x / 16).toNat + 1) 0 /\ 128 <= l.getD 1 0 /\ l.getD 1 0 <= 191 /\ 128 <= l.getD 2 0 /\ l.getD 2 0 <= 191 then some 4 else none)) := by
 unfold Zgi at hc
 refine ⟨_, rfl, ?_⟩
 have hf := ZnF ⟨c.toNat, by omega⟩ (by show 128 <= c.toNat; omega)
 simp only at hf
 show (_ /\ (if c < 128 then _ else _) = _) \/ (_ /\ (if c < 128 then _ else _) = _) \/ (_ /\ (if c < 128 then _ else _) = _) \/ (_ /\ (if c < 128 then _ else _) = _)
 rw [if_neg h]
 rcases hf with ⟨h1, hx⟩ | ⟨h1, hx⟩ | ⟨h1, hx⟩ | ⟨h1, hx⟩ | ⟨h1, hx⟩ | ⟨h1, hx⟩ | ⟨h1, hx⟩ | ⟨h1, hx⟩ <;> rw [hx]
 ·exact .inl ⟨rfl, by rw [if_neg (by omega), if_neg (by omega), if_neg (by omega)]⟩
 ·exact .inr (.inl ⟨rfl, by rw [if_pos (by omega)]⟩)
 ·obtain rfl : c = 224 := by omega
  refine .inr (.inr (.inl ⟨.inl rfl, ?_⟩)); rw [if_neg (by omega), if_pos (by omega)]; rfl
 ·refine .inr (.inr (.inl ⟨.inr (.inl rfl), ?_⟩))
  rw [if_neg (by omega), if_pos (by omega)]
  simp only [if_neg (show ¬ c = 224 by omega), if_neg (show ¬ c = 237 by omega)]; rfl
 ·obtain rfl : c = 237 := by omega
  refine .inr (.inr (.inl ⟨.inr (.inr rfl), ?_⟩)); rw [if_neg (by omega), if_pos (by omega)]; rfl
 ·obtain rfl : c = 240 := by omega
  refine .inr (.inr (.inr ⟨.inl rfl, ?_⟩)); rw [if_neg (by omega), if_neg (by omega), if_pos (by omega)]; rfl
 ·refine .inr (.inr (.inr ⟨.inr (.inl rfl), ?_⟩))
  rw [if_neg (by omega), if_neg (by omega), if_pos (by omega)]
  simp only [if_neg (show ¬ c = 240 by omega), if_neg (show ¬ c = 244 by omega)]; rfl
 ·obtain rfl : c = 244 := by omega
  refine .inr (.inr (.inr ⟨.inr (.inr rfl), ?_⟩)); rw [if_neg (by omega), if_neg (by omega), if_pos (by omega)]; rfl
theorem ZFf : IntKind.i64.wrap (Zu .and .u8 241 7) = 1 := by decide
theorem a2 : IntKind.i64.wrap (Zu .and .u8 2 7) = 2 := by decide
theorem a19 : IntKind.i64.wrap (Zu .and .u8 19 7) = 3 := by decide
theorem a3 : IntKind.i64.wrap (Zu .and .u8 3 7) = 3 := by decide
theorem a35 : IntKind.i64.wrap (Zu .and .u8 35 7) = 3 := by decide
theorem a52 : IntKind.i64.wrap (Zu .and .u8 52 7) = 4 := by decide
theorem a4 : IntKind.i64.wrap (Zu .and .u8 4 7) = 4 := by decide
theorem a68 : IntKind.i64.wrap (Zu .and .u8 68 7) = 4 := by decide
theorem ZEn : Int.fdiv 241 (2 ^ min 4 IntKind.u8.bits) = 15 := by decide
theorem s2 : Int.fdiv 2 (2 ^ min 4 IntKind.u8.bits) = 0 := by decide
theorem s3 : Int.fdiv 3 (2 ^ min 4 IntKind.u8.bits) = 0 := by decide
theorem s4 : Int.fdiv 4 (2 ^ min 4 IntKind.u8.bits) = 0 := by decide
theorem t15 : List.take 2 (List.drop 30 (List.map (V.int .u8) Zaa)) = [.int .u8 0, .int .u8 0] := rfl
theorem t0 : List.take 2 (List.drop 0 (List.map (V.int .u8) Zaa)) = [.int .u8 128, .int .u8 191] := rfl
theorem t1 : List.take 2 (List.drop 2 (List.map (V.int .u8) Zaa)) = [.int .u8 160, .int .u8 191] := rfl
theorem t2 : List.take 2 (List.drop 4 (List.map (V.int .u8) Zaa)) = [.int .u8 128, .int .u8 159] := rfl
theorem t3 : List.take 2 (List.drop 6 (List.map (V.int .u8) Zaa)) = [.int .u8 144, .int .u8 191] := rfl
theorem t4 : List.take 2 (List.drop 8 (List.map (V.int .u8) Zaa)) = [.int .u8 128, .int .u8 143] := rfl
theorem t00 : List.take 2 (List.map (V.int .u8) Zaa) = [.int .u8 128, .int .u8 191] := rfl
end Go.Proofs.YtimhmpdfioihlaaGreatDoor
namespace Go.Abs
set_option maxRecDepth 20000
open Go Go.RowKit
section
section
variable {P : Program} {st : St} {Q : Exit -> St -> Prop} {ops : Array Oper} {rest : List Oper} {o : Oper}
theorem AWL.tassert1 {xt t : TypeId} {x : Operand} {d : Nat} {k : IntKind} {n : Int} (hg : o.guard = none) (ho : o.op = .typeAssert x xt t true) (hd : o.dst = some d) (hdn : Nat.ble (d + 1) st.n = true) (hx : st.ev x = .con (.iface t (.agg #[.int k n]))) (hi : Ziv P t = false)
 (k' : AWL P ops rest Q (st.put d (.tup [.agg [.int k n], .bool true]))) : AWL P ops (o :: rest) Q st := AWL.tassert (l := [.int k n]) hg ho hd hdn hx rfl hi k'
theorem AW.keepPost {c : Code} (is ks : List Nat) (h : AW P c (fun e s => Q e (s.keep is ks)) st) : AW P c Q st := fun C a w hs =>
 wp_mono (h C a w hs) fun _ _ _ ⟨s, hq, S, β, hs⟩ => ⟨_, hq, S, β, hs.keep is ks⟩
end
end
end Go.Abs
namespace Go.Proofs.YtimhmpdfioihlaaGreatDoor
set_option maxRecDepth 20000
open Go Go.Abs Nat
attribute [local irreducible] AW AWL AC FW CW CWr IntKind.wrap
section
theorem Zzy.NM : type_of% @NSX /\ type_of% @St.keepS.eq_1 /\ type_of% @TY /\ type_of% @SLS /\ type_of% @Zas /\ type_of% @Za5 /\ type_of% @dz /\ type_of% @Za :=
 ⟨NSX, St.keepS.eq_1, @TY, @SLS, @Zas, @Za5, @dz, @Za⟩
open Zzy
open ZiN Zs8 in
theorem Zuc (w : Int) : AC Tryz.prog 174 [.int .i64 w] (fun r m => r = .int .i64 (Zei w) /\ m = []) := by
 by_cases h1 : w = 8
 ·subst h1
  refine AC.enter Tryz.func174 rfl (Yaa rfl) ?_
  simp only [Tryz.f174]
  have nx := trivial
  refine' ZbU
  all_goals first | exact ⟨rfl, trivial⟩ | exact ⟨congrArg (V.int .i64) (by decide +kernel), trivial⟩ | trace_state
 by_cases h2 : w = 16
 ·subst h2
  refine AC.enter Tryz.func174 rfl (Yaa rfl) ?_
  simp only [Tryz.f174]
  have nx := trivial
  refine' ZbU
  all_goals first | exact ⟨rfl, trivial⟩ | exact ⟨congrArg (V.int .i64) (by decide +kernel), trivial⟩ | trace_state
 by_cases h3 : w = 32
 ·subst h3
  refine AC.enter Tryz.func174 rfl (Yaa rfl) ?_
  simp only [Tryz.f174]
  have nx := trivial
  refine' ZbU
  all_goals first | exact ⟨rfl, trivial⟩ | exact ⟨congrArg (V.int .i64) (by decide +kernel), trivial⟩ | trace_state
 by_cases h4 : w = 64
 ·subst h4
  refine AC.enter Tryz.func174 rfl (Yaa rfl) ?_
  simp only [Tryz.f174]
  have nx := trivial
  refine' ZbU
  all_goals first | exact ⟨rfl, trivial⟩ | exact ⟨congrArg (V.int .i64) (by decide +kernel), trivial⟩ | trace_state
 have e : Zei w = 0 := by unfold Zei; simp [h1, h2, h3, h4]
 rw [e]
 refine AC.enter Tryz.func174 rfl (Yaa rfl) ?_
 simp only [Tryz.f174]
 have nx := trivial
 refine' ZbU
 all_goals first | exact ⟨rfl, trivial⟩ | (exfalso; omega) | trace_state
end
end Go.Proofs.YtimhmpdfioihlaaGreatDoor
namespace Go.Proofs.YtimhmpdfioihlaaGreatDoor
set_option maxRecDepth 20000
open Go Go.Abs
open Go.Lib in
theorem ZBj {w : World} (h3 : VarReads Tryz.prog w "unicode/utf8.first" firstData) (h4 : VarReads Tryz.prog w "unicode/utf8.acceptRanges" acceptData) : Lib.Utf8Tabs 0 1 w := by
 have n3 : Tryz.prog.globalNamed "unicode/utf8.first" = some 0 := by kernel_rfl
 have n4 : Tryz.prog.globalNamed "unicode/utf8.acceptRanges" = some 1 := by kernel_rfl
 have y3 : (Tryz.prog.globals[0]?).map (·.type) = some 150 := by kernel_rfl
 have y4 : (Tryz.prog.globals[1]?).map (·.type) = some 153 := by kernel_rfl
 have c5 : Tryz.prog.cellsOf 5 = 1 := by kernel_rfl
 have c1 : Tryz.prog.cellsOf 150 = 256 := by kernel_rfl
 have c2 : Tryz.prog.cellsOf 152 = 2 := by kernel_rfl
 refine ⟨fun c hc => ?_, fun i hi => ?_⟩
 ·obtain ⟨g, t, cs, fuel, p, hg, hty, hvar, hd⟩ := h3
  obtain rfl := Option.some.inj (n3.symm.trans hg)
  obtain rfl := Option.some.inj (y3.symm.trans hty)
  have hcs := cells_of_tab Tryz.underlying150 Tryz.underlying5 c5 c1 hd
  have := World.var?_cell hg hvar c
  rw [this, <- Array.getElem?_toList, hcs]
  simp [firstTab, hc]
 ·obtain ⟨g, t, cs, fuel, p, hg, hty, hvar, hd⟩ := h4
  obtain rfl := Option.some.inj (n4.symm.trans hg)
  obtain rfl := Option.some.inj (y4.symm.trans hty)
  obtain ⟨fuel', d, q, hdi, he⟩ := array_elem Tryz.underlying153 hd i hi
  simp only [Yas, List.getElem?_range hi, Option.map_some, Yac] at hdi
  subst hdi
  rw [c2] at he
  have hcs := ints_of_struct Tryz.underlying152 (fun j f hj => by
   match j, hj with
   | 0, hj => simp at hj; subst hj; exact ⟨Tryz.underlying5, rfl, c5⟩
   | 1, hj => simp at hj; subst hj; exact ⟨Tryz.underlying5, rfl, c5⟩
   | j + 2, hj => simp at hj) (by rw [c2]; rfl) he
  have e0 := congrArg (·[0]?) hcs
  have e1 := congrArg (·[1]?) hcs
  simp only [List.getElem?_take, Ya2] at e0 e1
  constructor
  ·rw [World.var?_cell hg hvar (2 * i), <- Array.getElem?_toList]
   simpa [Nat.mul_comm] using e0
  ·rw [World.var?_cell hg hvar (2 * i + 1), <- Array.getElem?_toList]
   simpa [Nat.mul_comm] using e1
theorem ZqI : Rows.laid_unicode_utf8_first = Lib.firstData := by kernel_rfl
theorem ZnM : (Rows.laid_unicode_utf8_acceptRanges : DataW Unit) = Lib.acceptData := by kernel_rfl
theorem Zut : ∀ j : Fin 256, Zco[j.val]? = some ((Lib.firstT j.val : Nat) : Int) := by decide +kernel
theorem ZqJ : ∀ j : Fin 16, Zaa[2 * j.val]? = some ((Lib.accLo j.val : Nat) : Int) /\ Zaa[2 * j.val + 1]? = some ((Lib.accHi j.val : Nat) : Int) := by decide +kernel
theorem Zuu {W : World} {b o : Nat} {v : Value} (h : W.cell? ⟨b, o, none⟩ = some v) : b < W.heap.size := by
 apply Classical.byContradiction
 intro hn
 simp [World.cell?, Array.getElem?_eq_none (Nat.le_of_not_lt hn)] at h
theorem ZDJ {laid : List (String × DataW Unit)} {W : World} (hL : laidMet Tryz.prog laid W) (h3 : ("unicode/utf8.first", Rows.laid_unicode_utf8_first) ∈ laid) (h4 : ("unicode/utf8.acceptRanges", Rows.laid_unicode_utf8_acceptRanges) ∈ laid) : GT (fun b => b < W.heap.size) W := by
 rw [ZqI] at h3
 rw [ZnM] at h4
 obtain ⟨t1, t2⟩ := ZBj (Lib.laidMet.reads hL h3) (Lib.laidMet.reads hL h4)
 intro g cs hg
 unfold ZCg at hg
 simp only [lk] at hg
 by_cases h0 : g = 0
 ·subst h0
  have hg : some Zco = some cs := hg
  cases hg
  refine ⟨Zuu (t1 0 (by decide)), fun j v hj => ?_⟩
  have hlt : j < 256 := by
   have := (Yak.1 hj).1
   exact this
  have e := Zut ⟨j, hlt⟩
  simp only at e
  rw [hj] at e
  cases e
  exact t1 j hlt
 ·by_cases h1 : g = 1
  ·subst h1
   have hg : some Zaa = some cs := hg
   cases hg
   refine ⟨Zuu (t2 0 (by decide)).1, fun j v hj => ?_⟩
   have hlt : j < 32 := (Yak.1 hj).1
   obtain ⟨e1, e2⟩ := ZqJ ⟨j / 2, by omega⟩
   obtain ⟨q1, q2⟩ := t2 (j / 2) (by omega)
   simp only at e1 e2
   by_cases hp : j % 2 = 0
   ·rw [show 2 * (j / 2) = j by omega] at e1 q1
    rw [hj] at e1
    cases e1
    exact q1
   ·rw [show 2 * (j / 2) + 1 = j by omega] at e2 q2
    rw [hj] at e2
    cases e2
    exact q2
  ·rw [show (0 == g) = false by simpa using fun h => h0 h.symm, show (1 == g) = false by simpa using fun h => h1 h.symm] at hg
   simp at hg
end Go.Proofs.YtimhmpdfioihlaaGreatDoor
namespace Go.Proofs.YtimhmpdfioihlaaGreatDoor
set_option maxRecDepth 20000
open Go Go.Abs
def ZaN (x : Int) : List Int := [ZeH x 0, ZeH x 1, ZeH x 2, ZeH x 3, ZeH x 4, ZeH x 5, ZeH x 6]
theorem Zwq (x : Int) (i : Nat) (h : i < 7) : (ZaN x).getD i 0 = ZeH x i := by
 have : i = 0 \/ i = 1 \/ i = 2 \/ i = 3 \/ i = 4 \/ i = 5 \/ i = 6 := by omega
 rcases this with rfl | rfl | rfl | rfl | rfl | rfl | rfl <;> rfl
theorem Zp8 (x : Int) (i : Nat) (h : i < 7) : (ZaN x).take (i + 1) = (ZaN x).take i ++ [ZeH x i] := by
 have : i = 0 \/ i = 1 \/ i = 2 \/ i = 3 \/ i = 4 \/ i = 5 \/ i = 6 := by omega
 rcases this with rfl | rfl | rfl | rfl | rfl | rfl | rfl <;> rfl
theorem Zcr (x : Int) : (ZaN x).length = 7 := rfl
theorem ZC1 {x : Int} (h : Zgi x) : ZeH x 7 = if x >= 128 then 1 else 0 := by
 obtain ⟨h0, h1⟩ := h
 show x / 2 ^ 7 % 2 = _
 simp only [Int.reducePow]
 split <;> omega
theorem Zti (l m : List Int) (i j : Nat) (h : j < l.length + i) : (l ++ m.take i).getD j 0 = (l ++ m).getD j 0 := by
 simp only [Yah, List.getElem?_append]
 split
 ·rfl
 ·rw [List.getElem?_take, if_pos (by omega)]
theorem ZhN {k : IntKind} {xs : List Int} {n : Nat} (h : n < xs.length) : (Zh k xs).getD n .any = .int k (xs.getD n 0) := by
 simp [Zh, Yah, h]
def Ztj (sg : Bool) (bits : Int) (k : Nat) (x : Int) (l : List Int) (i : Nat) : Prop :=
 7 * (k : Int) + i >= bits /\ ((sg = true -> ZeH x i ≠ (l ++ ZaN x).getD (bits - 1).toNat 0) /\ (sg = false -> ZeH x i = 1))
noncomputable def rRd (sg : Bool) (bits : Int) : List Int -> Nat -> List Int -> Int -> List Int × Int × Int
 | [], _, _, _ => ([], 0, 5)
 | x :: t, k, l, at_ =>
   open Classical in
   if (∃ i, i < 7 /\ Ztj sg bits k x l i) \/ (7 * ((k : Int) + 1) >= bits /\ x >= 128) then ([], 0, 6)
   else if x < 128 then (l ++ ZaN x, at_ + 1, 0) else rRd sg bits t (k + 1) (l ++ ZaN x) (at_ + 1)
noncomputable def Zbj (sg : Bool) (xs : List Int) (at_ bits : Int) : List Int × Int × Int :=
 if bits < 1 \/ bits > 64 \/ at_ < 0 \/ at_ > xs.length then ([], 0, 1) else rRd sg bits (xs.drop at_.toNat) 0 [] at_
end Go.Proofs.YtimhmpdfioihlaaGreatDoor
namespace Go.Proofs.YtimhmpdfioihlaaGreatDoor
set_option maxRecDepth 20000
open Go Go.Abs
attribute [local irreducible] AW AWL AC FW CW CWr IntKind.wrap
theorem ZDa.kp : type_of% (@Zs [0, 2, 8]) := @Zs [0, 2, 8]
open ZcA ZsY in
theorem Zl8 (k : Int) : AC Tryz.prog 169 [.int .i64 k] (fun r m => r = .bool (if 0 <= k then flS (k + 64768) else false) /\ m = []) := by
 by_cases h0 : 0 <= k
 ·rw [if_pos h0]
  refine AC.enter Tryz.func169 rfl (Yaa rfl) ?_
  simp only [Tryz.f169]
  have nx := trivial
  refine' ZoY
  all_goals first
   | exact ⟨Zym ⟨fun _ => trivial, fun _ => (Zd3 _).2 (by omega)⟩, trivial⟩
   | exact ⟨ZAN (fun h => by have := (Zd3 _).1 h; omega), trivial⟩
   | exact ⟨Zyn ⟨fun h => (Zd3 _).2 (by omega), fun h => by have := (Zd3 _).1 h; omega⟩, trivial⟩
 ·rw [if_neg h0]
  refine AC.enter Tryz.func169 rfl (Yaa rfl) ?_
  simp only [Tryz.f169]
  have nx := trivial
  refine' ZoY
  all_goals first
   | exact ⟨rfl, trivial⟩
   | (exfalso; omega)
open ZDa ZsY in
theorem Zww (op : Int) (ho : op < 9223372036854775808) : AC Tryz.prog 156 [.int .i64 op] (fun r m => r = .bool (flS op) /\ m = []) := by
 refine AC.enter Tryz.func156 rfl (Yaa rfl) ?_
 simp only [Tryz.f156]
 by_cases hop : op >= 64768
 ·have e1 : IntKind.i64.wrap (op - 64768) = op - 64768 := Zb _ (by omega) (by omega)
  have hc0 : (if 0 <= op - 64768 then flS (op - 64768 + 64768) else false) = flS op := by rw [if_pos (by omega), show op - 64768 + 64768 = op from by omega]
  have nx := aI @e1 (aI @hc0 trivial)
  refine' ZoS
  all_goals first | exact ⟨trivial, trivial⟩ | exact ⟨rfl, trivial⟩ | exact ⟨rfl, rfl⟩ | exact ⟨trivial, rfl⟩ | (exfalso; omega) | trace_state
 ·have nx := trivial
  refine' ZoS
  all_goals first
   | exact ⟨Zym ⟨fun _ => trivial, fun _ => (Zd3 _).2 (by omega)⟩, trivial⟩
   | exact ⟨ZAN (fun h => by have := (Zd3 _).1 h; omega), trivial⟩
   | exact ⟨Zyn ⟨fun h => (Zd3 _).2 (by omega), fun h => by have := (Zd3 _).1 h; omega⟩, trivial⟩
end Go.Proofs.YtimhmpdfioihlaaGreatDoor
namespace Go.Proofs.YtimhmpdfioihlaaGreatDoor
set_option maxRecDepth 20000
open Go Go.Abs
def Zl9 : List UInt8 -> Nat
 | [] => 0
 | c :: l => if c.toNat = 58 then 0 else Zl9 l + 1
def Zy0 (w : List UInt8) (g : List UInt8) : Bool :=
 if w = [45] then g.isEmpty else !g.isEmpty && decide (w.length <= 100) && decide (Zl9 w < w.length) && decide (Zpe (w.take (Zl9 w)) = (ZjD (Zhx g)).2.1) && decide (Zpe (w.drop (Zl9 w)) = (ZjD (Zhx g)).2.2)
def Zwx (t : List UInt8) (r : Row) : Bool :=
 decide (t.length <= 1000) && (match Zpd t with
 | [a, b, c, d, e] => decide (a.length <= 5) && decide (b.length <= 5) && decide (c.length <= 5) && decide (d.length <= 5) && decide (Zwt 16 a = r.1) && decide (Zwt 16 b = r.2.1) && decide (Zwt 10 c = r.2.2.1) && decide (Zwt 10 d = r.2.2.2.1) && Zy0 e r.2.2.2.2
 | _ => false)
def Zwy : List (List UInt8) -> List Row -> Bool
 | [], [] => true
 | t :: l, r :: m => Zwx t r && Zwy l m
 | _, _ => false
theorem ZAP : Zwy ZlX Zje = true := by decide +kernel
theorem ZAQ {l : List (List UInt8)} {m : List Row} (h : Zwy l m = true) {k : Nat} (hk : k < m.length) : Zwx (l.getD k []) (m.getD k Zfx) = true := by
 induction l generalizing m k with
 | nil =>
   cases m with
   | nil => exact absurd hk (Nat.not_lt_zero _)
   | cons => cases h
 | cons t l ih =>
   cases m with
   | nil => exact absurd hk (Nat.not_lt_zero _)
   | cons r m =>
     rw [Zwy, Yao] at h
     cases k with
     | zero => exact h.1
     | succ k => exact ih h.2 (by simpa using hk)
theorem ZAR {w : List UInt8} (h : Zl9 w < w.length) : (w.getD (Zl9 w) 0).toNat = 58 := by
 induction w with
 | nil => exact absurd h (Nat.not_lt_zero _)
 | cons c w ih =>
   rw [Zl9] at h ⊢
   by_cases hc : c.toNat = 58
   ·rw [if_pos hc]; exact hc
   ·rw [if_neg hc] at h ⊢; exact ih (by simpa using h)
theorem Zqb {w : List UInt8} {j : Nat} (h : j < Zl9 w) : (w.getD j 0).toNat ≠ 58 := by
 induction w generalizing j with
 | nil => exact absurd h (Nat.not_lt_zero _)
 | cons c w ih =>
   rw [Zl9] at h
   by_cases hc : c.toNat = 58
   ·rw [if_pos hc] at h; exact absurd h (Nat.not_lt_zero _)
   ·rw [if_neg hc] at h
    cases j with
    | zero => exact hc
    | succ j => exact ih (by omega)
theorem Ztt {t : List UInt8} {r : Row} (h : Zwx t r = true) : t.length <= 1000 /\ ∃ a b c d e, Zpd t = [a, b, c, d, e] /\ a.length <= 5 /\ b.length <= 5 /\ c.length <= 5 /\ d.length <= 5 /\ Zwt 16 a = r.1 /\ Zwt 16 b = r.2.1 /\ Zwt 10 c = r.2.2.1 /\ Zwt 10 d = r.2.2.2.1 /\ Zy0 e r.2.2.2.2 = true := by
 unfold Zwx at h
 rw [Yao] at h
 refine ⟨of_decide_eq_true h.1, ?_⟩
 have h := h.2
 split at h
 ·rename_i a b c d e he
  simp only [Yao, Yaz] at h
  exact ⟨a, b, c, d, e, he, h.1.1.1.1.1.1.1.1, h.1.1.1.1.1.1.1.2, h.1.1.1.1.1.1.2, h.1.1.1.1.1.2, h.1.1.1.1.2, h.1.1.1.2, h.1.1.2, h.1.2, h.2⟩
 ·cases h
theorem Zwz : Zje.length = 108 := by decide +kernel
theorem Zqc : ZlX.length = 108 := by decide +kernel
end Go.Proofs.YtimhmpdfioihlaaGreatDoor
namespace Go.Proofs.YtimhmpdfioihlaaGreatDoor
set_option maxRecDepth 20000
open Go Go.Abs
attribute [local irreducible] AW AWL AC FW CW CWr IntKind.wrap
theorem Zy3.sd {p : Prop} (h : p := by first | exact Zvo) : p := h
open Zy3 Zs0 in
theorem ZwA (v : List Int) (hl : v.length = 16) (hb : bytes v) : AC Tryz.prog 172 [.fagg (Zh .u8 v)] (fun r m => r = .agg [.int .u64 (lo v), .int .u64 (hi v)] /\ m = []) := by
 have h1 := Zbq hb 8
 have h2 := Zfc hb 8
 have e1 : (v.take 8).length = 8 := by rw [Yar]; omega
 have e2 : (v.drop 8).length = 8 := by rw [Yaw]; omega
 have e3 : (v.drop 8).take 8 = v.drop 8 := Yad (by omega)
 refine AC.enter Tryz.func172 rfl (Yaa rfl) ?_
 simp only [Tryz.f172]
 have nx := aI @e3 (aI @hl trivial)
 refine' ZvN
 all_goals first | exact ⟨rfl, trivial⟩ | exact ⟨trivial, trivial⟩ | exact ⟨rfl, rfl⟩ | trace_state
end Go.Proofs.YtimhmpdfioihlaaGreatDoor
namespace Go.Proofs.YtimhmpdfioihlaaGreatDoor
set_option maxRecDepth 20000
open Go Go.Abs
structure Ins where
 op : Int
 a : Int
 b : Int
 lo : Int
 hi : Int
 l : List Int
 deriving DecidableEq
def Zfy (i : Ins) : List V := [.int .i64 i.op, .int .i64 i.a, .int .i64 i.b, .int .u64 i.lo, .int .u64 i.hi, .view i.l.length 1 (Zh .i64 i.l)]
structure Rd where
 pos : Int
 op : List Int
 jk : List Int
 err : Int
 deriving DecidableEq
def rdM (k ko : Nat) (b : List Int) (r : Rd) : Mem := [(k, ⟨false, [.view b.length 1 (Zh .u8 b), .int .i64 r.pos, .ref ko 0 r.op.length 1, .int .i64 r.err]⟩), (ko, ⟨true, Zh .i64 (r.op ++ r.jk)⟩)]
structure Zb6 (b : List Int) (r : Rd) : Prop where
 p0 : 0 <= r.pos
 p1 : r.pos <= b.length
def Z4 (r : Rd) (e : Int) : Rd := if r.err = 0 then { r with err := e } else r
def Z7 (b : List Int) (r : Rd) : Int × Rd := if r.err ≠ 0 \/ r.pos >= b.length then (0, Z4 r 10) else (b.getD r.pos.toNat 0, { r with pos := r.pos + 1 })
def Zab (b : List Int) (r : Rd) : Int × Rd := if r.err ≠ 0 then (0, r) else if (ZaM b r.pos 32).2.2 ≠ 0 then (0, Z4 r 10) else ((ZaM b r.pos 32).1, { r with pos := (ZaM b r.pos 32).2.1 })
def Zfd (b : List Int) (n : Int) (r : Rd) : Int × Rd := if r.err ≠ 0 then (0, r) else if (Zad b r.pos n).2.2 ≠ 0 then (0, Z4 r 10) else ((Zad b r.pos n).1, { r with pos := (Zad b r.pos n).2.1 })
def ZiT (b : List Int) (r : Rd) : Int × Rd := ((Zfd b 33 r).1, if (Zfd b 33 r).1 < 0 then Z4 (Zfd b 33 r).2 10 else (Zfd b 33 r).2)
def Zg3 (c : Int) : Prop := c = 64 \/ c = 127 \/ c = 126 \/ c = 123
def Zeh (c : Int) : Prop := c = 125 \/ c = 124
instance (c : Int) : Decidable (Zg3 c) := by unfold Zg3; infer_instance
instance (c : Int) : Decidable (Zeh c) := by unfold Zeh; infer_instance
def Zfr (b : List Int) (r : Rd) : Int × Rd :=
 if r.pos < b.length then
  if Zg3 (b.getD r.pos.toNat 0) then (b.getD r.pos.toNat 0 - 128, { r with pos := r.pos + 1 })
  else if Zeh (b.getD r.pos.toNat 0) then (0, Z4 r 11)
  else ZiT b r
 else ZiT b r
def Zdz (r : Rd) : Bool × Rd := if r.op.length = 0 then (true, r) else (false, { r with op := r.op.take (r.op.length - 1), jk := r.op.drop (r.op.length - 1) ++ r.jk })
def ZbD (op : Int) (r : Rd) : Rd :=
 if op ≠ 5 then { (if r.op.length = 128 then Z4 r 3 else r) with op := r.op ++ [op], jk := [] }
 else if r.op.length = 0 \/ r.op.getD (r.op.length - 1) 0 ≠ 4 then Z4 r 10
 else { r with op := r.op.take (r.op.length - 1) ++ [5] }
def ZgD (b : List Int) : Nat -> Rd -> List Int -> List Int × Rd
 | 0, r, l => (l, r)
 | n + 1, r, l => if r.err = 0 then ZgD b n (Zab b r).2 (l ++ [(Zab b r).1]) else (l, r)
def ZfL (b : List Int) : Nat -> Rd -> List Int × Rd
 | 0, r => ([], r)
 | n + 1, r => ((Z7 b r).1 :: (ZfL b n (Z7 b r).2).1, (ZfL b n (Z7 b r).2).2)
def Zn (b : List Int) (form : Int) (r : Rd) (i : Ins) : Ins × Rd :=
 if form = 2 then ({ i with a := (Zfr b r).1 }, (Zfr b r).2)
 else if form = 3 \/ form = 5 then ({ i with a := (Zab b r).1 }, (Zab b r).2)
 else if form = 4 then
  ({ i with a := (Zab b (ZgD b (Zab b r).1.toNat (Zab b r).2 i.l).2).1, l := (ZgD b (Zab b r).1.toNat (Zab b r).2 i.l).1 }, (Zab b (ZgD b (Zab b r).1.toNat (Zab b r).2 i.l).2).2)
 else if form = 6 \/ form = 7 then ({ i with a := (Zab b r).1, b := (Zab b (Zab b r).2).1 }, (Zab b (Zab b r).2).2)
 else if form = 8 then ({ i with a := (Zab b r).1, b := (Zab b (Zab b r).2).1, lo := (Z7 b (Zab b (Zab b r).2).2).1 }, (Z7 b (Zab b (Zab b r).2).2).2)
 else if form = 9 then ({ i with lo := (Zfd b 32 r).1 % 4294967296 }, (Zfd b 32 r).2)
 else if form = 10 then ({ i with lo := (Zfd b 64 r).1 % 18446744073709551616 }, (Zfd b 64 r).2)
 else if form = 11 \/ form = 12 then ({ i with lo := lo (ZfL b 16 r).1, hi := hi (ZfL b 16 r).1 }, (ZfL b 16 r).2)
 else if form = 13 then ({ i with a := (Z7 b r).1 }, (Z7 b r).2)
 else if form = 14 then (i, if (Z7 b r).1 ≠ 0 then Z4 (Z7 b r).2 10 else (Z7 b r).2)
 else (i, r)
def opS (b : List Int) (r : Rd) : Int × Rd :=
 if (Z7 b r).1 = 253 then (64768 + (Zab b (Z7 b r).2).1, (Zab b (Z7 b r).2).2)
 else if (Z7 b r).1 = 252 then (252, Z4 (if (Zab b (Z7 b r).2).1 <= 7 then Z4 (Zab b (Z7 b r).2).2 11 else (Zab b (Z7 b r).2).2) 10)
 else Z7 b r
def Zyo (op : Int) (r : Rd) : Rd := if (ofS op).2 = true then (if flS op = true then Z4 r 11 else r) else Z4 (if flS op = true then Z4 r 11 else r) 10
def Zdp (b : List Int) (op : Int) (r : Rd) : Ins × Rd := if r.err = 0 then Zn b (ofS op).1.1 r ⟨op, 0, 0, 0, 0, []⟩ else (⟨op, 0, 0, 0, 0, []⟩, r)
def ZaE (b : List Int) (r : Rd) : Ins × Rd :=
 ((Zdp b (opS b r).1 (Zyo (opS b r).1 (opS b r).2)).1,
   if (Zdp b (opS b r).1 (Zyo (opS b r).1 (opS b r).2)).2.err = 0 /\ 2 <= (opS b r).1 /\ (opS b r).1 <= 5 then ZbD (opS b r).1 (Zdp b (opS b r).1 (Zyo (opS b r).1 (opS b r).2)).2
   else (Zdp b (opS b r).1 (Zyo (opS b r).1 (opS b r).2)).2)
theorem Zyp (bits : Int) : ∀ (xs : List Int) (k : Nat) (v at_ : Int), bytes xs -> bits <= 64 -> 7 * (k : Int) < bits -> 0 <= v -> v < 2 ^ (7 * k) -> (uRd bits xs (7 * k) v at_).2.2 = 0 ->
 0 <= (uRd bits xs (7 * k) v at_).1 /\ (uRd bits xs (7 * k) v at_).1 < 2 ^ bits.toNat /\ at_ < (uRd bits xs (7 * k) v at_).2.1 /\ (uRd bits xs (7 * k) v at_).2.1 <= at_ + xs.length
 | [], _, _, _, _, _, _, _, _, h => by simp [uRd] at h
 | x :: t, k, v, at_, hb, h64, hk, hv0, hv1, h => by
   have hx := hb x (List.mem_cons_self ..)
   rw [uRd] at h ⊢
   by_cases c : (bits - ((7 * k : Nat) : Int) < 7 /\ (x % 128) / 2 ^ (bits - ((7 * k : Nat) : Int)).toNat ≠ 0) \/ (bits - ((7 * k : Nat) : Int) <= 7 /\ x >= 128)
   ·rw [if_pos c] at h; simp at h
   ·rw [if_neg c] at h ⊢
    have hl : bits - 7 * k < 7 -> x % 128 / 2 ^ (bits - 7 * (k : Int)).toNat = 0 := fun h7 => Classical.byContradiction fun hn => c (.inl ⟨by omega, by rw [show (bits - ((7 * k : Nat) : Int)) = bits - 7 * (k : Int) by omega]; exact hn⟩)
    have hlt := Zyf hk (by omega) (by omega) hl
    have h2 := Zg0 hv0 hv1 (low := x % 128) (by omega) hlt
    have h3 : (2 : Int) ^ (7 * k + min 7 (bits - 7 * k).toNat) <= 2 ^ bits.toNat := by exact_mod_cast Nat.pow_le_pow_right (by decide) (by omega)
    have h4 : (2 : Int) ^ (7 * k + min 7 (bits - 7 * k).toNat) <= 2 ^ (7 * (k + 1)) := by exact_mod_cast Nat.pow_le_pow_right (by decide) (by omega)
    by_cases h128 : x < 128
    ·rw [if_pos h128] at h ⊢
     simp only [Yag]
     omega
    ·rw [if_neg h128] at h ⊢
     have hk2 : 7 * ((k + 1 : Nat) : Int) < bits := by
      apply Classical.byContradiction; intro h; exact c (.inr ⟨by omega, by omega⟩)
     have := Zyp bits t (k + 1) (v + x % 128 * 2 ^ (7 * k)) (at_ + 1) (fun y hy => hb y (Yaq _ hy)) h64 hk2 h2.1 (by omega) h
     simp only [Yag]
     rw [show 7 * k + 7 = 7 * (k + 1) by omega]
     omega
theorem ZaO {xs : List Int} (hb : bytes xs) {p : Int} (h0 : 0 <= p /\ p <= xs.length) (h : (ZaM xs p 32).2.2 = 0) : (0 <= (ZaM xs p 32).1 /\ (ZaM xs p 32).1 < 4294967296) /\ p < (ZaM xs p 32).2.1 /\ (ZaM xs p 32).2.1 <= xs.length := by
 unfold ZaM at h ⊢
 rw [if_neg (by omega)] at h ⊢
 have := Zyp 32 (xs.drop p.toNat) 0 0 p (fun x hx => hb x (List.mem_of_mem_drop hx)) (by omega) (by omega) (by omega) (by decide) h
 simp only [Yaw, Nat.mul_zero] at this
 have e : (2 : Int) ^ (32 : Int).toNat = 4294967296 := by decide
 rw [e] at this
 omega
theorem Ztv (bits : Int) : ∀ (xs : List Int) (d : Nat) (v at_ : Int), (sRd bits xs d v at_).2.2 = 0 -> at_ < (sRd bits xs d v at_).2.1 /\ (sRd bits xs d v at_).2.1 <= at_ + xs.length
 | [], _, _, _, h => by simp [sRd] at h
 | x :: t, d, v, at_, h => by
   rw [sRd] at h ⊢
   split at h
   ·simp at h
   ·rename_i c
    rw [if_neg c]
    split at h
    ·rename_i c2
     rw [if_pos c2]
     simp only [Yag]; omega
    ·rename_i c2
     rw [if_neg c2]
     have := Ztv bits t _ _ _ h
     simp only [Yag]; omega
theorem Zgk {xs : List Int} {n p : Int} (hn : 1 <= n /\ n <= 64) (h0 : 0 <= p /\ p <= xs.length) (h : (Zad xs p n).2.2 = 0) : p < (Zad xs p n).2.1 /\ (Zad xs p n).2.1 <= xs.length := by
 unfold Zad at h ⊢
 rw [if_neg (by omega)] at h ⊢
 have := Ztv n _ _ _ _ h
 rw [Yaw] at this; omega
theorem ZcI {b : List Int} {r : Rd} (h : Zb6 b r) (e : Int) : Zb6 b (Z4 r e) := by
 unfold Z4; split
 ·exact ⟨h.p0, h.p1⟩
 ·exact h
theorem ZhP {b : List Int} {r : Rd} (h : Zb6 b r) : Zb6 b (Z7 b r).2 := by
 unfold Z7; split
 ·exact ZcI h _
 ·have h0 := h.p0; have h1 := h.p1
  exact ⟨by simp only; omega, by simp only; omega⟩
theorem ZeJ {b : List Int} (hb : bytes b) {r : Rd} (h : Zb6 b r) : Zb6 b (Zab b r).2 /\ 0 <= (Zab b r).1 /\ (Zab b r).1 < 4294967296 := by
 unfold Zab; split
 ·exact ⟨h, by simp⟩
 ·split
  ·exact ⟨ZcI h _, by simp⟩
  ·rename_i _ c
   have := ZaO hb ⟨h.p0, h.p1⟩ (Classical.not_not.1 c)
   have h0 := h.p0
   exact ⟨⟨by simp only; omega, this.2.2⟩, this.1⟩
theorem Zy5 {b : List Int} {r : Rd} {n : Int} (hn : 1 <= n /\ n <= 64) (h : Zb6 b r) : Zb6 b (Zfd b n r).2 := by
 unfold Zfd; split
 ·exact h
 ·split
  ·exact ZcI h _
  ·rename_i _ c
   have := Zgk hn ⟨h.p0, h.p1⟩ (Classical.not_not.1 c)
   have h0 := h.p0
   exact ⟨by simp only; omega, this.2⟩
theorem Zfe {b : List Int} (hb : bytes b) {r : Rd} (h : Zb6 b r) : Zgi (Z7 b r).1 := by
 unfold Z7; split
 ·exact ⟨Int.le_refl 0, by show (0 : Int) <= 255; decide⟩
 ·have h0 := h.p0; have h1 := h.p1
  exact hb _ (Z8 (by omega))
def Zqh (b : List Int) (op : Int) (r : Rd) : Ins × Rd :=
 ((Zdp b op (Zyo op r)).1, if (Zdp b op (Zyo op r)).2.err = 0 /\ 2 <= op /\ op <= 5 then ZbD op (Zdp b op (Zyo op r)).2 else (Zdp b op (Zyo op r)).2)
def Zpi (op : Int) (p : Ins × Rd) : Ins × Rd := (p.1, if p.2.err = 0 /\ 2 <= op /\ op <= 5 then ZbD op p.2 else p.2)
def ZkR (op : Int) (r : Rd) : Rd := if flS op = true then Z4 r 11 else r
def ZkS (op : Int) (r : Rd) : Rd := if (ofS op).2 = true then r else Z4 r 10
theorem Zd4 (b : List Int) (op : Int) (r : Rd) : Zqh b op r = Zpi op (Zdp b op (ZkS op (ZkR op r))) := rfl
theorem Zgl (b : List Int) (r : Rd) : ZaE b r = Zqh b (opS b r).1 (opS b r).2 := rfl
theorem ZaP (r : Rd) (e : Int) : (Z4 r e).op = r.op := by unfold Z4; split <;> rfl
theorem Zd5 (b : List Int) (r : Rd) : (Z7 b r).2.op = r.op := by
 unfold Z7; split
 ·exact ZaP _ _
 ·rfl
theorem Zg4 (b : List Int) (r : Rd) : (Zab b r).2.op = r.op := by
 unfold Zab; split
 ·rfl
 ·split
  ·exact ZaP _ _
  ·rfl
theorem ZnC (b : List Int) (n : Int) (r : Rd) : (Zfd b n r).2.op = r.op := by
 unfold Zfd; split
 ·rfl
 ·split
  ·exact ZaP _ _
  ·rfl
theorem ZwD (b : List Int) (r : Rd) : (Zfr b r).2.op = r.op := by
 have hN : (ZiT b r).2.op = r.op := by
  unfold ZiT; simp only; split
  ·rw [ZaP, ZnC]
  ·exact ZnC _ _ _
 unfold Zfr
 split
 ·split
  ·rfl
  ·split
   ·exact ZaP _ _
   ·exact hN
 ·exact hN
theorem ZtA (b : List Int) : ∀ (n : Nat) (r : Rd) (l : List Int), (ZgD b n r l).2.op = r.op
 | 0, _, _ => rfl
 | n + 1, r, l => by
   rw [ZgD]; split
   ·rw [ZtA b n, Zg4]
   ·rfl
theorem ZtB (b : List Int) : ∀ (n : Nat) (r : Rd), (ZfL b n r).2.op = r.op
 | 0, _ => rfl
 | n + 1, r => by rw [ZfL]; simp only; rw [ZtB b n, Zd5]
theorem ZjF (b : List Int) (form : Int) (r : Rd) (i : Ins) : (Zn b form r i).2.op = r.op := by
 unfold Zn
 repeat' split
 all_goals first
  | rfl
  | exact ZwD _ _
  | exact Zg4 _ _
  | exact ZnC _ _ _
  | exact Zd5 _ _
  | exact ZtB _ _ _
  | (simp only [Zg4, ZtA, Zd5, ZaP]; done)
end Go.Proofs.YtimhmpdfioihlaaGreatDoor
namespace Go.Proofs.YtimhmpdfioihlaaGreatDoor
set_option maxRecDepth 20000
open Go Go.Abs Nat
section
theorem Ztw {k : IntKind} {xs : List Int} {n : Nat} (h : n < xs.length) : (Zh k xs).getD n .any = .int k (xs.getD n 0) := by
 simp [Zh, Yah, h]
attribute [local irreducible] AW AWL AC FW CW CWr IntKind.wrap
open MB
theorem ZDd.cl {p : Prop} (h : p := by
 first
  | refine AWL.cM (f := 155) [(0, 0), (1002, 1002)] Zj1 rfl rfl rfl rfl rfl rfl rfl (hfail) ?_
 all_goals (apply_rules (newGoals := .nonDependentOnly) only [dep]; exact ())) : p := h
open ZiM Zl in
theorem ZaS (b : List Int) (r : Rd) (e : Int) : AM Tryz.prog 155 [.ptr 0 0, .int .i64 e] (rdM 0 1002 b r) [0] (fun v m => v = .tup [] /\ m = rdM 0 1002 b (Z4 r e)) := by
 obtain ⟨p, o, j, er⟩ := r
 unfold rdM
 refine AM.enter Tryz.func155 rfl (Yaa rfl) (fun pn => ?_)
 simp only [Tryz.f155]
 by_cases h : er = 0
 ·subst h
  have nx := trivial
  refine' ZhI
  all_goals first | exact ⟨trivial, trivial⟩ | exact ⟨rfl, trivial⟩ | exact ⟨rfl, rfl⟩ | exact ⟨trivial, rfl⟩ | (exfalso; omega) | trace_state
 ·have h1 : Z4 ⟨p, o, j, er⟩ e = ⟨p, o, j, er⟩ := if_neg h
  have nx := aI @h1 trivial
  refine' ZhI
  all_goals first | exact ⟨trivial, trivial⟩ | exact ⟨rfl, trivial⟩ | exact ⟨rfl, rfl⟩ | exact ⟨trivial, rfl⟩ | (exfalso; omega) | trace_state
open ZcA Zl in
theorem Zqe (b : List Int) (r : Rd) (hl : r.op.length <= 1000000) : AM Tryz.prog 144 [.ptr 0 0] (rdM 0 1002 b r) [0] (fun v m => v = .bool (Zdz r).1 /\ m = rdM 0 1002 b (Zdz r).2) := by
 obtain ⟨p, o, j, er⟩ := r
 simp only at hl
 unfold rdM
 refine AM.enter Tryz.func144 rfl (Yaa rfl) (fun pn => ?_)
 simp only [Tryz.f144]
 by_cases h : o.length = 0
 ·have h1 : Zdz ⟨p, o, j, er⟩ = (true, ⟨p, o, j, er⟩) := if_pos h
  have nx := aI @h1 trivial
  refine' ZhI
  all_goals first | exact ⟨trivial, trivial⟩ | exact ⟨rfl, trivial⟩ | exact ⟨rfl, rfl⟩ | exact ⟨trivial, rfl⟩ | (exfalso; omega) | trace_state
 ·have h1 : Zdz ⟨p, o, j, er⟩ = (false, ⟨p, o.take (o.length - 1), o.drop (o.length - 1) ++ j, er⟩) := if_neg h
  have h2 : IntKind.i64.wrap ((o.length : Int) - 1) = ((o.length - 1 : Nat) : Int) := by rw [Zb _ (by omega) (by omega)]; omega
  have h3 : (o.take (o.length - 1)).length = o.length - 1 := by rw [Yar]; omega
  have h4 : o.take (o.length - 1) ++ (o.drop (o.length - 1) ++ j) = o ++ j := by rw [<- Ya6, List.take_append_drop]
  have nx := aI @h1 (aI @h2 (aI @h3 (aI @h4 trivial)))
  refine' ZhI
  all_goals first | exact ⟨trivial, trivial⟩ | exact ⟨rfl, trivial⟩ | exact ⟨rfl, rfl⟩ | exact ⟨trivial, rfl⟩ | (exfalso; omega) | trace_state
open ZDd ZsX Zl in
theorem Zqf (b : List Int) (r : Rd) (hl : r.op.length <= 1000000) (op : Int) : AM Tryz.prog 158 [.ptr 0 0, .int .i64 op] (rdM 0 1002 b r) [0] (fun v m => v = .tup [] /\ m = rdM 0 1002 b (ZbD op r)) := by
 obtain ⟨p, o, j, er⟩ := r
 simp only at hl
 have hfail : True := trivial
 unfold rdM
 refine AM.enter Tryz.func158 rfl (Yaa rfl) (fun pn => ?_)
 simp only [Tryz.f158]
 by_cases h5 : op = 5
 ·subst h5
  have hfail := ZaS b ⟨p, o, j, er⟩ 10
  by_cases h0 : o.length = 0
  ·have h1 : ZbD 5 ⟨p, o, j, er⟩ = Z4 ⟨p, o, j, er⟩ 10 := by unfold ZbD; rw [if_neg (fun h => h rfl), if_pos (.inl h0)]
   rw [h1]
   unfold rdM at hfail
   generalize Z4 ⟨p, o, j, er⟩ 10 = r2 at hfail
   obtain ⟨p2, o2, j2, e2⟩ := r2
   have nx := trivial
   refine' Zge
   all_goals first | exact ⟨trivial, trivial⟩ | exact ⟨rfl, trivial⟩ | exact ⟨rfl, rfl⟩ | exact ⟨trivial, rfl⟩ | (exfalso; omega) | trace_state
  ·have h2 : IntKind.i64.wrap ((o.length : Int) - 1) = ((o.length - 1 : Nat) : Int) := by rw [Zb _ (by omega) (by omega)]; omega
   have h3 : (o ++ j).getD (o.length - 1) 0 = o.getD (o.length - 1) 0 := by simp only [Yah]; rw [Ya1 (by omega)]
   have hA : (Zh .i64 (o ++ j)).getD (o.length - 1) .any = .int .i64 (o.getD (o.length - 1) 0) := by rw [<- h3]; exact Ztw (by rw [Yal]; omega)
   by_cases h4 : o.getD (o.length - 1) 0 = 4
   ·have h1 : ZbD 5 ⟨p, o, j, er⟩ = ⟨p, o.take (o.length - 1) ++ [5], j, er⟩ := by
     unfold ZbD; rw [if_neg (fun h => h rfl), if_neg (fun h => h.elim h0 (fun h => h h4))]
    have h6 : (o.take (o.length - 1) ++ [5]).length = o.length := by rw [Yal, Yar]; simp only [Yag, List.length_nil]; omega
    have h7 : ZuR (o ++ j) (o.length - 1) 5 = o.take (o.length - 1) ++ [5] ++ j := by
     unfold ZuR
     rw [List.take_append_of_le_length (by omega), List.drop_append, Ya7 (by omega), List.nil_append, show o.length - 1 + 1 - o.length = 0 by omega]; rfl
    have nx := aI @h1 (aI @h2 (aI @hA (aI @h4 (aI @h6 (aI @h7 trivial)))))
    refine' Zge
    all_goals first | exact ⟨trivial, trivial⟩ | exact ⟨rfl, trivial⟩ | exact ⟨rfl, rfl⟩ | exact ⟨trivial, rfl⟩ | (exfalso; omega) | trace_state
   ·have h1 : ZbD 5 ⟨p, o, j, er⟩ = Z4 ⟨p, o, j, er⟩ 10 := by unfold ZbD; rw [if_neg (fun h => h rfl), if_pos (.inr h4)]
    rw [h1]
    unfold rdM at hfail
    generalize Z4 ⟨p, o, j, er⟩ 10 = r2 at hfail
    obtain ⟨p2, o2, j2, e2⟩ := r2
    have nx := aI @h2 (aI @hA trivial)
    refine' Zge
    all_goals first | exact ⟨trivial, trivial⟩ | exact ⟨rfl, trivial⟩ | exact ⟨rfl, rfl⟩ | exact ⟨trivial, rfl⟩ | (exfalso; omega) | trace_state
 ·have h6 : (o ++ [op]).length = o.length + 1 := by simp
  by_cases h128 : o.length = 128
  ·have h1 : ZbD op ⟨p, o, j, er⟩ = { Z4 ⟨p, o, j, er⟩ 3 with op := o ++ [op], jk := [] } := by unfold ZbD; rw [if_pos h5]; simp only [if_pos h128]
   have hfail := ZaS b ⟨p, o, j, er⟩ 3
   have hfo : (Z4 ⟨p, o, j, er⟩ 3).op = o /\ (Z4 ⟨p, o, j, er⟩ 3).jk = j := by unfold Z4; split <;> exact ⟨rfl, rfl⟩
   rw [h1]
   unfold rdM at hfail
   generalize Z4 ⟨p, o, j, er⟩ 3 = r2 at hfail hfo
   obtain ⟨p2, o2, j2, e2⟩ := r2
   obtain ⟨rfl, rfl⟩ := hfo
   have nx := aI @h6 (aI @List.take_left.{0} trivial)
   refine' Zge
   all_goals first | exact ⟨trivial, trivial⟩ | exact ⟨rfl, trivial⟩ | exact ⟨rfl, rfl⟩ | exact ⟨trivial, rfl⟩ | (exfalso; omega) | trace_state
  ·have h1 : ZbD op ⟨p, o, j, er⟩ = ⟨p, o ++ [op], [], er⟩ := by unfold ZbD; rw [if_pos h5]; simp only [if_neg h128]
   have nx := aI @h1 (aI @h6 (aI @List.take_left.{0} trivial))
   refine' Zge
   all_goals first | exact ⟨trivial, trivial⟩ | exact ⟨rfl, trivial⟩ | exact ⟨rfl, rfl⟩ | exact ⟨trivial, rfl⟩ | (exfalso; omega) | trace_state
end
section
theorem Zyq {x : Int} (h : Zgi x) : IntKind.u64.wrap x = x := by unfold Zgi at h; exact ZaC rfl h.1 (by show x < (2 : Int) ^ 64; omega)
theorem Zi1 {l : List Int} (hb : bytes l) (i : Nat) (hi : i < 8) (hl : i < l.length) : Zu .or .u64 (le (l.take i)) (IntKind.u64.wrap (IntKind.u64.wrap (l.getD i 0) * 2 ^ min (8 * i) IntKind.u64.bits)) = le (l.take (i + 1)) := by
 have hc := ZbX hb hl
 have hx := Zgj (Zbq hb i)
 rw [Yar, Nat.min_eq_left (by omega)] at hx
 have e1 := ZEm hc hi
 rw [show (8 * (i : Int)).toNat = 8 * i by omega] at e1
 rw [Zyq hc, e1, or8 hx hc hi, Zny hl]
attribute [local irreducible] AW AWL AC FW CW CWr IntKind.wrap
open MB
open ZiN ZeE in
theorem ZfP (l : List Int) (hb : bytes l) (h8 : 8 <= l.length) (hl : l.length <= 1000000000) : AC Tryz.prog 114 [.view l.length 1 (Zh .u8 l)] (fun r m => r = .int .u64 (le (l.take 8)) /\ m = []) := by
 have x0 := ZbX hb (show 0 < l.length by omega)
 have x1 := ZbX hb (show 1 < l.length by omega)
 have x2 := ZbX hb (show 2 < l.length by omega)
 have x3 := ZbX hb (show 3 < l.length by omega)
 have x4 := ZbX hb (show 4 < l.length by omega)
 have x5 := ZbX hb (show 5 < l.length by omega)
 have x6 := ZbX hb (show 6 < l.length by omega)
 have x7 := ZbX hb (show 7 < l.length by omega)
 have w0 : IntKind.u64.wrap (l.getD 0 0) = le (l.take 1) := by rw [Zyq x0, Zny (show 0 < l.length by omega)]; simp [le]
 have w1 : Zu .or .u64 (le (l.take 1)) (IntKind.u64.wrap (IntKind.u64.wrap (l.getD 1 0) * 2 ^ min 8 IntKind.u64.bits)) = le (l.take 2) := Zi1 hb 1 (by omega) (by omega)
 have w2 : Zu .or .u64 (le (l.take 2)) (IntKind.u64.wrap (IntKind.u64.wrap (l.getD 2 0) * 2 ^ min 16 IntKind.u64.bits)) = le (l.take 3) := Zi1 hb 2 (by omega) (by omega)
 have w3 : Zu .or .u64 (le (l.take 3)) (IntKind.u64.wrap (IntKind.u64.wrap (l.getD 3 0) * 2 ^ min 24 IntKind.u64.bits)) = le (l.take 4) := Zi1 hb 3 (by omega) (by omega)
 have w4 : Zu .or .u64 (le (l.take 4)) (IntKind.u64.wrap (IntKind.u64.wrap (l.getD 4 0) * 2 ^ min 32 IntKind.u64.bits)) = le (l.take 5) := Zi1 hb 4 (by omega) (by omega)
 have w5 : Zu .or .u64 (le (l.take 5)) (IntKind.u64.wrap (IntKind.u64.wrap (l.getD 5 0) * 2 ^ min 40 IntKind.u64.bits)) = le (l.take 6) := Zi1 hb 5 (by omega) (by omega)
 have w6 : Zu .or .u64 (le (l.take 6)) (IntKind.u64.wrap (IntKind.u64.wrap (l.getD 6 0) * 2 ^ min 48 IntKind.u64.bits)) = le (l.take 7) := Zi1 hb 6 (by omega) (by omega)
 have w7 : Zu .or .u64 (le (l.take 7)) (IntKind.u64.wrap (IntKind.u64.wrap (l.getD 7 0) * 2 ^ min 56 IntKind.u64.bits)) = le (l.take 8) := Zi1 hb 7 (by omega) (by omega)
 refine AC.enter Tryz.func114 rfl (Yaa rfl) ?_
 simp only [Tryz.f114]
 have nx := aI @w0 (aI @w1 (aI @w2 (aI @w3 (aI @w4 (aI @w5 (aI @w6 (aI @w7 trivial)))))))
 refine' Zv5
 all_goals first | exact ⟨trivial, trivial⟩ | exact ⟨rfl, trivial⟩ | exact ⟨rfl, rfl⟩ | exact ⟨trivial, rfl⟩ | (exfalso; omega) | trace_state
end
end Go.Proofs.YtimhmpdfioihlaaGreatDoor
namespace Go.Proofs.YtimhmpdfioihlaaGreatDoor
set_option maxRecDepth 20000
open Go Go.Abs
def Zar (b : List Int) (p : Int) : Int × Int := if (ZaM b p 32).2.2 ≠ 0 then (0, -1) else ((ZaM b p 32).1, (ZaM b p 32).2.1)
def Zzp (op p : Int) : Int × Int × Int := if flS op = true then (0, 0, 11) else if (ofS op).2 = true then (op, p, 0) else (0, 0, 10)
def Zc5 (b : List Int) (p : Int) : Int × Int × Int :=
 if p >= b.length then (0, 0, 10)
 else if b.getD p.toNat 0 = 252 \/ b.getD p.toNat 0 = 253 then
  if (Zar b (p + 1)).2 < 0 then (0, 0, 10)
  else if b.getD p.toNat 0 = 252 /\ (Zar b (p + 1)).1 <= 7 then (0, 0, 11)
  else if b.getD p.toNat 0 = 252 \/ (Zar b (p + 1)).1 > 255 then (0, 0, 10)
  else Zzp (64768 + (Zar b (p + 1)).1) (Zar b (p + 1)).2
 else Zzp (b.getD p.toNat 0) (p + 1)
def Zmm (b : List Int) (p : Int) : Int × Int × Int :=
 if p < b.length /\ Zeh (b.getD p.toNat 0) then (0, 0, 11)
 else if p < b.length /\ Zg3 (b.getD p.toNat 0) then (b.getD p.toNat 0 - 128, p + 1, 0)
 else if (Zad b p 33).2.2 ≠ 0 \/ (Zad b p 33).1 < 0 then (0, 0, 10)
 else ((Zad b p 33).1, (Zad b p 33).2.1, 0)
def Zzq : Ins := ⟨0, 0, 0, 0, 0, []⟩
def ZbE (i : Ins) (p : Int) : Ins × Int × Int := if p < 0 then (Zzq, 0, 10) else (i, p, 0)
def tbR (b : List Int) : Nat -> Int -> List Int -> List Int × Int
 | 0, p, l => (l, p)
 | n + 1, p, l => if p >= 0 then tbR b n (Zar b p).2 (l ++ [(Zar b p).1]) else (l, p)
def ZbF (b : List Int) (p : Int) : Int × Int := if p >= 0 then Zar b p else (0, p)
def Zpv (b : List Int) (p : Int) (i : Ins) (form : Int) : Ins × Int × Int :=
 if form = 11 \/ form = 12 then
  if (b.length : Int) - p < 16 then (Zzq, 0, 10)
  else ({ i with lo := lo ((b.drop p.toNat).take 16), hi := hi ((b.drop p.toNat).take 16) }, p + 16, 0)
 else if p >= b.length \/ (form = 14 /\ b.getD p.toNat 0 ≠ 0) then (Zzq, 0, 10)
 else (if form = 13 then { i with a := b.getD p.toNat 0 } else i, p + 1, 0)
def Zjg (b : List Int) (p : Int) (i : Ins) (form : Int) : Ins × Int × Int :=
 if form = 1 then (i, p, 0)
 else if form = 2 then ({ i with a := (Zmm b p).1 }, (Zmm b p).2.1, (Zmm b p).2.2)
 else if form = 4 then
  ZbE { i with l := (tbR b (Zar b p).1.toNat (Zar b p).2 []).1, a := (ZbF b (tbR b (Zar b p).1.toNat (Zar b p).2 []).2).1 } (ZbF b (tbR b (Zar b p).1.toNat (Zar b p).2 []).2).2
 else if form = 3 \/ form = 5 then ZbE { i with a := (Zar b p).1 } (Zar b p).2
 else if form = 6 \/ form = 7 then ZbE { i with a := (Zar b p).1, b := (ZbF b (Zar b p).2).1 } (ZbF b (Zar b p).2).2
 else if form = 8 then
  if (ZbF b (Zar b p).2).2 >= b.length then ({ i with a := (Zar b p).1, b := (ZbF b (Zar b p).2).1 }, 0, 10)
  else if (ZbF b (Zar b p).2).2 >= 0 then ZbE { i with a := (Zar b p).1, b := (ZbF b (Zar b p).2).1, lo := b.getD (ZbF b (Zar b p).2).2.toNat 0 } ((ZbF b (Zar b p).2).2 + 1)
  else ZbE { i with a := (Zar b p).1, b := (ZbF b (Zar b p).2).1 } (ZbF b (Zar b p).2).2
 else if form = 9 then ZbE { i with lo := (Zad b p 32).1 % 4294967296 } (if (Zad b p 32).2.2 ≠ 0 then -1 else (Zad b p 32).2.1)
 else if form = 10 then ZbE { i with lo := (Zad b p 64).1 % 18446744073709551616 } (if (Zad b p 64).2.2 ≠ 0 then -1 else (Zad b p 64).2.1)
 else Zpv b p i form
theorem ZeU {b : List Int} (hb : bytes b) {p : Int} (h : 0 <= p /\ p <= b.length) : (0 <= (Zar b p).1 /\ (Zar b p).1 < 4294967296) /\ ((Zar b p).2 = -1 \/ (p < (Zar b p).2 /\ (Zar b p).2 <= b.length)) := by
 unfold Zar; split
 ·exact ⟨⟨Int.le_refl 0, by show (0 : Int) < 4294967296; decide⟩, .inl rfl⟩
 ·rename_i c
  have := ZaO hb h (Classical.not_not.1 c)
  exact ⟨this.1, .inr this.2⟩
end Go.Proofs.YtimhmpdfioihlaaGreatDoor
