/- plaitref04.Of. -/
import Derived.Test.YtimhmpdfioihlaaGreatDoorDP
import Derived.Test.YtimhmpdfioihlaaGreatDoorGWords
import Derived.Test.YtimhmpdfioihlaaGreatDoorGCB
import Derived.Test.YtimhmpdfioihlaaGreatDoorGXP
import Derived.Test.YtimhmpdfioihlaaGreatDoorGRS
import Derived.Test.YtimhmpdfioihlaaGreatDoorOf
set_option linter.unusedSimpArgs false
set_option linter.unusedVariables false
set_option maxHeartbeats 12800000
namespace Go.Proofs.YtimhmpdfioihlaaGreatDoor
set_option maxRecDepth 20000
open Go Go.Abs
attribute [local irreducible] AW AWL AC FW CW CWr IntKind.wrap
theorem Zqd (a b c d e : List UInt8) : Zl1 [a, b, c, d, e] = [.str a, .str b, .str c, .str d, .str e] := rfl
def R5 (op : Int) (T : List (List UInt8)) (i : Int) : St := { n := 73, slots := [(0, .int .i64 op), (2, .ptr 2 0), (3, .bool false), (4, .view 108 1 (Zl1 T)), (5, .int .i64 i)], mem := [(2, ⟨false, [.int .i64 0, .int .i64 0, .bool false, .ref 3003 0 0 1, .ref 3004 0 0 1]⟩), (3003, ⟨true, []⟩), (3004, ⟨true, []⟩)] }
def R8 (a b c d e : List UInt8) (fm lm : Int) (i : Int) : St := { n := 73, slots := [(2, .ptr 2 0), (3, .bool false), (6, .ref 6 0 5 1), (7, .ptr 7 0), (8, .int .i64 i)], mem := [(2, ⟨false, [.int .i64 0, .int .i64 0, .bool false, .ref 3003 0 0 1, .ref 3004 0 0 1]⟩), (3003, ⟨true, []⟩), (3004, ⟨true, []⟩), (6, ⟨true, [.str a, .str b, .str c, .str d, .str e]⟩), (7, ⟨false, [.int .i64 fm, .int .i64 lm, .bool true, .ref 8003 0 0 1, .ref 8004 0 0 1]⟩), (8003, ⟨true, []⟩), (8004, ⟨true, []⟩)] }
theorem ZDc.sd {p : Prop} (h : p := by first | exact Zvn) : p := h
open ZDc ZsZ in
set_option maxRecDepth 8000 in
theorem ZAS (op : Int) : AC Tryz.prog 147 [.int .i64 op]
 (fun r m => r = .tup [Ztf (ofS op).1, .bool (ofS op).2] /\ m = [(3003, Zh .i64 (ofS op).1.2.2.2.1), (3004, Zh .i64 (ofS op).1.2.2.2.2)]) := by
 have hwords : True := trivial
 have hzip := fun (k : Nat) (hk : k < Zje.length) => ZAQ ZAP hk
 have hal := Zwz
 have htl := Zqc
 refine AC.enter Tryz.func147 rfl (Yaa rfl) ?_
 simp only [Tryz.f147]
 obtain ⟨T, hT⟩ : ∃ T, ZlX = T := ⟨_, rfl⟩
 rw [hT] at hzip htl
 have nx := trivial
 refine' ZdZ
 refine AW.loop [0, 2, 3, 4, 5] [2, 3003, 3004] (fun m st => ∃ (i : Nat), st = R5 op T i /\ i <= 108 /\ m = 108 - i /\ ∀ j, j < i -> op < (Zje.getD j Zfx).1 \/ op > (Zje.getD j Zfx).2.1) ?_ ?_
 ·exact ⟨_, 0, by rw [hT]; rfl, Nat.zero_le _, rfl, fun j hj => absurd hj (Nat.not_lt_zero _)⟩
 rintro m st ⟨i, rfl, hi, rfl, hall⟩
 have e5 : IntKind.i64.wrap ((i : Int) + 1) = ((i + 1 : Nat) : Int) := Zb _ (by omega) (by omega)
 by_cases hin : i < 108
 ·obtain ⟨ht, a, b, c, d, e, hW, ha, hb, hc, hd, n0, n1, n2, n3, hsg⟩ := Ztt (hzip i (by omega))
  have hld : (List.drop i (Zl1 T)).getD 0 .any = .str (T.getD i []) := by
   have := ZyR (l := T) (k := i) (by omega)
   rw [<- this]; simp only [Yah, Ya2, Nat.add_zero]
  have hdl : 0 < (List.drop i (Zl1 T)).length := by rw [Yaw, Zkw]; omega
  have hwords := Zws (T.getD i []) ht
  rw [hW, Zqd] at hwords
  generalize T.getD i [] = t at hld hwords
  by_cases hno : op < (Zje.getD i Zfx).1 \/ op > (Zje.getD i Zfx).2.1
  ·have hall2 : ∀ j, j < i + 1 -> op < (Zje.getD j Zfx).1 \/ op > (Zje.getD j Zfx).2.1 := fun j hj => by
    by_cases e : j < i
    ·exact hall j e
    ·obtain rfl : j = i := by omega
     exact hno
   have nx := aI @e5 (aI @hld (aI @n0 (aI @n1 trivial)))
   refine' ZdZ
   all_goals try simp (disch := omega) only [NSX, St.keepS, Nat.reduceBEq, Nat.reduceAdd, Nat.reduceMul, Int.reduceToNat, Nat.reduceSub, TY, List.set_cons_zero, List.set_cons_succ, SLS, Za, Zag, Zo, R5, R8, Zqd, e5]
   all_goals first
    | exact ⟨108 - (i + 1), by omega, i + 1, rfl, by omega, rfl, hall2⟩
    | (exfalso; omega) | trace_state
  ·have hf := Zo8 (op := op) (l := Zje) (k := i) (by omega) hall hno
   have hof : ofS op = (Zl0 (Zje.getD i Zfx), true) := by unfold ofS; rw [hf]
   generalize Zje.getD i Zfx = r at hno hf hof n0 n1 n2 n3 hsg
   obtain ⟨r0, r1, fm, lm, g⟩ := r
   simp only at hno n0 n1 n2 n3 hsg
   have hno1 : ¬ op < r0 := fun h => hno (.inl h)
   have hno2 : ¬ r1 < op := fun h => hno (.inr h)
   unfold Zy0 at hsg
   by_cases he : e = [45]
   ·rw [if_pos he] at hsg
    have hg : g = [] := by cases g with | nil => rfl | cons => cases hsg
    subst hg; subst he
    have nx := aI @e5 (aI @hld (aI @n0 (aI @n1 (aI @n2 (aI @n3 trivial)))))
    refine' ZdZ
    all_goals first | exact ⟨trivial, trivial⟩ | exact ⟨rfl, trivial⟩ | exact ⟨rfl, rfl⟩ | exact ⟨trivial, rfl⟩ | (rw [hof]; exact ⟨rfl, rfl⟩) | (exfalso; omega) | trace_state
   ·rw [if_neg he] at hsg
    simp only [Yao, Yaz] at hsg
    obtain ⟨⟨⟨⟨hg, hel⟩, hcl⟩, hin2⟩, hou2⟩ := hsg
    have nx := aI @e5 (aI @hld (aI @n0 (aI @n1 (aI @n2 (aI @n3 trivial)))))
    refine' ZdZ
    all_goals try (exact absurd (by assumption) he)
    refine AW.loop [2, 3, 6, 7, 8] [2, 3003, 3004, 6, 7, 8003, 8004] (fun m st => ∃ q : Nat, st = R8 a b c d e fm lm q /\ q <= Zl9 e /\ m = Zl9 e - q) ?_ ?_
    ·exact ⟨_, 0, rfl, Nat.zero_le _, rfl⟩
    rintro m st ⟨q, rfl, hq, rfl⟩
    have e6 : IntKind.i64.wrap ((q : Int) + 1) = ((q + 1 : Nat) : Int) := Zb _ (by omega) (by omega)
    by_cases hqc : q < Zl9 e
    ·have hne := Zqb hqc
     have nx := aI @e6 trivial
     refine' ZdZ
     all_goals try simp (disch := omega) only [NSX, St.keepS, Nat.reduceBEq, Nat.reduceAdd, Nat.reduceMul, Int.reduceToNat, Nat.reduceSub, TY, List.set_cons_zero, List.set_cons_succ, SLS, Za, Zag, Zo, R5, R8, Zqd, e6]
     all_goals first
      | exact ⟨Zl9 e - (q + 1), by omega, q + 1, rfl, by omega, rfl⟩
      | (exfalso; omega) | trace_state
    ·obtain rfl : q = Zl9 e := by omega
     have h58 := ZAR hcl
     have hdt : List.take (e.length - Zl9 e) (List.drop (Zl9 e) e) = List.drop (Zl9 e) e := Yad (by rw [Yaw]; omega)
     have nx := aI @hdt (aI @hin2 (aI @hou2 trivial))
     refine' ZdZ
     all_goals first | exact ⟨trivial, trivial⟩ | exact ⟨rfl, trivial⟩ | exact ⟨rfl, rfl⟩ | exact ⟨trivial, rfl⟩ | (rw [hof]; exact ⟨by simp only [Ztf, Zl0, hg], rfl⟩) | (exfalso; omega) | trace_state
 ·obtain rfl : i = 108 := by omega
  have hf := ZjC (op := op) (l := Zje) (fun j hj => hall j (by omega))
  have hof : ofS op = (Ztg, false) := by unfold ofS; rw [hf]
  have nx := trivial
  refine' ZdZ
  all_goals first | exact ⟨trivial, trivial⟩ | exact ⟨rfl, trivial⟩ | exact ⟨rfl, rfl⟩ | exact ⟨trivial, rfl⟩ | (rw [hof]; exact ⟨rfl, rfl⟩) | (exfalso; omega) | trace_state
end Go.Proofs.YtimhmpdfioihlaaGreatDoor
namespace Go.Proofs.YtimhmpdfioihlaaGreatDoor
set_option maxRecDepth 20000
open Go Go.Abs Nat
attribute [local irreducible] AW AWL AC FW CW CWr IntKind.wrap
section
def inM (k kl : Nat) (i : Ins) : Mem := [(k, ⟨false, [.int .i64 i.op, .int .i64 i.a, .int .i64 i.b, .int .u64 i.lo, .int .u64 i.hi, .ref kl 0 i.l.length 1]⟩), (kl, ⟨true, Zh .i64 i.l⟩)]
theorem Zpg {b : List Int} {r : Rd} (h : r.err ≠ 0) : Zab b r = (0, r) := if_pos h
open MB
theorem ZAV.cl {p : Prop} (h : p := by
 first
  | refine AWL.cM (f := 155) [(0, 0), (1002, 1002)] Zj1 rfl rfl rfl rfl rfl rfl rfl (hfl) ?_
  | refine AWL.cM (f := 170) [(0, 0), (1002, 1002)] ZCG rfl rfl rfl rfl rfl rfl rfl (hkd) ?_
  | refine AWL.cM (f := 154) [(0, 0), (1002, 1002)] Zvi rfl rfl rfl rfl rfl rfl rfl (hn1) ?_
  | refine AWL.cM (f := 154) [(0, 0), (1002, 1002)] Zvi rfl rfl rfl rfl rfl rfl rfl (hn2) ?_
  | refine AWL.cM (f := 153) [(0, 0), (1002, 1002)] Zvh rfl rfl rfl rfl rfl rfl rfl (hby) ?_
  | refine AWL.cM (f := 171) [(0, 0), (1002, 1002)] ZAo rfl rfl rfl rfl rfl rfl rfl (hsg) ?_
 all_goals (apply_rules (newGoals := .nonDependentOnly) only [dep]; exact ())) : p := h
open ZAV Znp Zl in
theorem Zmb (b : List Int) (hb : bytes b) (hlen : b.length <= 1000000000) (r : Rd) (hr : Zb6 b r) (form : Int) (h4 : form ≠ 4) (h11 : form ≠ 11) (h12 : form ≠ 12) (i : Ins) :
 AM Tryz.prog 157 [.ptr 0 0, .ptr 1 0, .int .i64 form] (rdM 0 1002 b r ++ inM 1 2005 i) [0, 1] (fun v m => v = .tup [] /\ m = rdM 0 1002 b (Zn b form r i).2 ++ inM 1 2005 (Zn b form r i).1) := by
 obtain ⟨io, ia, ib, il, ih, ill⟩ := i
 have hfl : True := trivial
 have hkd : True := trivial
 have hn1 : True := trivial
 have hn2 : True := trivial
 have hby : True := trivial
 have hsg : True := trivial
 have hcs : form = 2 \/ form = 3 \/ form = 5 \/ form = 6 \/ form = 7 \/ form = 8 \/ form = 9 \/ form = 10 \/ form = 13 \/ form = 14 \/ (form ≠ 2 /\ form ≠ 3 /\ form ≠ 5 /\ form ≠ 6 /\ form ≠ 7 /\ form ≠ 8 /\ form ≠ 9 /\ form ≠ 10 /\ form ≠ 13 /\ form ≠ 14) := by omega
 obtain ⟨A, hA⟩ : ∃ A, Zn b form r ⟨io, ia, ib, il, ih, ill⟩ = A := ⟨_, rfl⟩
 rw [hA]
 unfold Zn at hA
 rcases hcs with rfl | rfl | rfl | rfl | rfl | rfl | rfl | rfl | rfl | rfl | ⟨g1, g2, g3, g4, g5, g6, g7, g8, g9, g10⟩
 case' inl =>
  rw [if_pos rfl] at hA
  have hkd := Ztx b hb hlen r hr
  generalize Zfr b r = z at hA hkd
  obtain ⟨n, r1⟩ := z
  have ew : True := trivial
  have ez : True := trivial
 case' inr.inl =>
  rw [if_neg (by decide), if_pos (by decide)] at hA
  have hn1 := ZbI b hb hlen r hr
  generalize Zab b r = z at hA hn1
  obtain ⟨n, r1⟩ := z
  have ew : True := trivial
  have ez : True := trivial
 case' inr.inr.inl =>
  rw [if_neg (by decide), if_pos (by decide)] at hA
  have hn1 := ZbI b hb hlen r hr
  generalize Zab b r = z at hA hn1
  obtain ⟨n, r1⟩ := z
  have ew : True := trivial
  have ez : True := trivial
 case' inr.inr.inr.inl =>
  rw [if_neg (by decide), if_neg (by decide), if_neg (by decide), if_pos (by decide)] at hA
  have hn1 := ZbI b hb hlen r hr
  have hr1 := (ZeJ hb hr).1
  generalize Zab b r = z at hA hn1 hr1
  obtain ⟨n, r1⟩ := z
  have hn2 := ZbI b hb hlen r1 hr1
  have ew : True := trivial
  have ez : True := trivial
 case' inr.inr.inr.inr.inl =>
  rw [if_neg (by decide), if_neg (by decide), if_neg (by decide), if_pos (by decide)] at hA
  have hn1 := ZbI b hb hlen r hr
  have hr1 := (ZeJ hb hr).1
  generalize Zab b r = z at hA hn1 hr1
  obtain ⟨n, r1⟩ := z
  have hn2 := ZbI b hb hlen r1 hr1
  have ew : True := trivial
  have ez : True := trivial
 case' inr.inr.inr.inr.inr.inl =>
  rw [if_neg (by decide), if_neg (by decide), if_neg (by decide), if_neg (by decide), if_pos (by decide)] at hA
  have hn1 := ZbI b hb hlen r hr
  have hr1 := (ZeJ hb hr).1
  generalize Zab b r = z at hA hn1 hr1
  obtain ⟨n, r1⟩ := z
  have hn2 := ZbI b hb hlen r1 hr1
  have hr2 := (ZeJ hb hr1).1
  simp only at hA
  generalize Zab b r1 = z2 at hA hn2 hr2
  obtain ⟨n2, r2⟩ := z2
  have hby := ZeK b hb hlen r2 hr2
  have hx := Zfe hb hr2
  simp only at hA
  generalize Z7 b r2 = z3 at hA hby hx
  obtain ⟨n3, r3⟩ := z3
  have ew : IntKind.u64.wrap n3 = n3 := ZaC rfl hx.1 (by have := hx.2; show _ < (18446744073709551616 : Int); simp only at this ⊢; omega)
  have ez : True := trivial
 case' inr.inr.inr.inr.inr.inr.inl =>
  rw [if_neg (by decide), if_neg (by decide), if_neg (by decide), if_neg (by decide), if_neg (by decide), if_pos (by decide)] at hA
  have hsg := Zkz b hb hlen 32 r
  generalize Zfd b 32 r = z at hA hsg
  obtain ⟨n, r1⟩ := z
  have ew : IntKind.u32.wrap n = n % 4294967296 := ZaY (k := .u32) rfl _
  have ez : IntKind.u64.wrap (n % 4294967296) = n % 4294967296 := ZaC rfl (by omega) (by show _ < (18446744073709551616 : Int); omega)
 case' inr.inr.inr.inr.inr.inr.inr.inl =>
  rw [if_neg (by decide), if_neg (by decide), if_neg (by decide), if_neg (by decide), if_neg (by decide), if_neg (by decide), if_pos (by decide)] at hA
  have hsg := Zkz b hb hlen 64 r
  generalize Zfd b 64 r = z at hA hsg
  obtain ⟨n, r1⟩ := z
  have ew : IntKind.u64.wrap n = n % 18446744073709551616 := ZaY (k := .u64) rfl _
  have ez : True := trivial
 case' inr.inr.inr.inr.inr.inr.inr.inr.inl =>
  rw [if_neg (by decide), if_neg (by decide), if_neg (by decide), if_neg (by decide), if_neg (by decide), if_neg (by decide), if_neg (by decide), if_neg (by decide), if_pos (by decide)] at hA
  have hby := ZeK b hb hlen r hr
  generalize Z7 b r = z at hA hby
  obtain ⟨n, r1⟩ := z
  have ew : True := trivial
  have ez : True := trivial
 case' inr.inr.inr.inr.inr.inr.inr.inr.inr.inl =>
  rw [if_neg (by decide), if_neg (by decide), if_neg (by decide), if_neg (by decide), if_neg (by decide), if_neg (by decide), if_neg (by decide), if_neg (by decide), if_neg (by decide), if_pos (by decide)] at hA
  have hby := ZeK b hb hlen r hr
  generalize Z7 b r = z at hA hby
  obtain ⟨n, r1⟩ := z
  have hfl := ZaS b r1 10
  simp only at hA
  generalize Z4 r1 10 = r2 at hA hfl
  have ew : True := trivial
  have ez : True := trivial
  by_cases hn0 : n = 0
  case' pos => rw [if_neg (fun h => h hn0)] at hA
  case' neg => rw [if_pos hn0] at hA
 case' inr.inr.inr.inr.inr.inr.inr.inr.inr.inr =>
  rw [if_neg g1, if_neg (by omega), if_neg h4, if_neg (by omega), if_neg g6, if_neg g7, if_neg g8, if_neg (by omega), if_neg g9, if_neg g10] at hA
  have ew : True := trivial
  have ez : True := trivial
 all_goals
  subst hA
  unfold rdM inM at *
  refine AM.enter Tryz.func157 rfl (Yaa rfl) (fun pn => ?_)
  simp only [Tryz.f157]
  have nx := aI @ew (aI @ez trivial)
  refine' Zwf
  all_goals first | exact ⟨trivial, trivial⟩ | exact ⟨rfl, trivial⟩ | exact ⟨rfl, rfl⟩ | exact ⟨trivial, rfl⟩ | (exfalso; omega) | trace_state
end
end Go.Proofs.YtimhmpdfioihlaaGreatDoor
namespace Go.Proofs.YtimhmpdfioihlaaGreatDoor
set_option maxRecDepth 20000
open Go Go.Abs
theorem ZC4 : ∀ n : Fin 256, val (ZaN (n.val : Int)) = (n.val : Int) % 128 := by decide +kernel
theorem ZE6 {x : Int} (h : Zgi x) : val (ZaN x) = x % 128 := by
 obtain ⟨h0, h1⟩ := h
 have := ZC4 ⟨x.toNat, by omega⟩
 simp only [Int.toNat_of_nonneg h0] at this; exact this
theorem ZE7 : ∀ n : Fin 256, ∀ d : Fin 8, ((n.val : Int) % 128 / 2 ^ d.val ≠ 0 ↔ ∃ i : Fin 7, d.val <= i.val /\ ZeH (n.val : Int) (i.val : Int) = 1) := by decide +kernel
theorem hi7 {x : Int} (h : Zgi x) {d : Nat} (hd : d < 8) : (x % 128 / 2 ^ d ≠ 0) ↔ ∃ i, i < 7 /\ d <= i /\ ZeH x (i : Int) = 1 := by
 obtain ⟨h0, h1⟩ := h
 have := ZE7 ⟨x.toNat, by omega⟩ ⟨d, hd⟩
 simp only [Int.toNat_of_nonneg h0] at this
 rw [this]
 exact ⟨fun ⟨i, a, b⟩ => ⟨i.val, i.isLt, a, b⟩, fun ⟨i, h, a, b⟩ => ⟨⟨i, h⟩, a, b⟩⟩
theorem ZE8 : ∀ n : Fin 256, ∀ d : Fin 7, ((sx (n.val : Int) / 2 ^ d.val ≠ 0 /\ sx (n.val : Int) / 2 ^ d.val ≠ -1) ↔ ∃ i : Fin 7, d.val < i.val /\ ZeH (n.val : Int) (i.val : Int) ≠ ZeH (n.val : Int) (d.val : Int)) := by decide +kernel
theorem sg7 {x : Int} (h : Zgi x) {d : Nat} (hd : d < 7) : (sx x / 2 ^ d ≠ 0 /\ sx x / 2 ^ d ≠ -1) ↔ ∃ i, i < 7 /\ d < i /\ ZeH x (i : Int) ≠ ZeH x (d : Int) := by
 obtain ⟨h0, h1⟩ := h
 have := ZE8 ⟨x.toNat, by omega⟩ ⟨d, hd⟩
 simp only [Int.toNat_of_nonneg h0] at this
 rw [this]
 exact ⟨fun ⟨i, a, b⟩ => ⟨i.val, i.isLt, a, b⟩, fun ⟨i, h, a, b⟩ => ⟨⟨i, h⟩, a, b⟩⟩
theorem Ztn {l : List Int} {x : Int} {k : Nat} (h : Zgi x) (hl : l.length = 7 * k) : val (l ++ ZaN x) = val l + x % 128 * 2 ^ (7 * k) := by
 rw [Zdy, ZE6 h, hl, Int.mul_comm (2 ^ _)]
theorem ZE9 {bits : Int} {k : Nat} {x : Int} {l : List Int} (h : Zgi x) (hk : 7 * (k : Int) < bits) :
 ((∃ i, i < 7 /\ Ztj false bits k x l i) \/ (7 * ((k : Int) + 1) >= bits /\ x >= 128)) ↔ ((bits - ((7 * k : Nat) : Int) < 7 /\ (x % 128) / 2 ^ (bits - ((7 * k : Nat) : Int)).toNat ≠ 0) \/ (bits - ((7 * k : Nat) : Int) <= 7 /\ x >= 128)) := by
 constructor
 ·rintro (⟨i, hi, hb, _, h2⟩ | ⟨h1, h2⟩)
  ·exact .inl ⟨by omega, (hi7 h (by omega)).2 ⟨i, hi, by omega, h2 rfl⟩⟩
  ·exact .inr ⟨by omega, h2⟩
 ·rintro (⟨h1, h2⟩ | ⟨h1, h2⟩)
  ·obtain ⟨i, hi, hd, hb⟩ := (hi7 h (by omega)).1 h2
   exact .inl ⟨i, hi, by omega, fun h => Bool.noConfusion h, fun _ => hb⟩
  ·exact .inr ⟨by omega, h2⟩
theorem ZFa {bits : Int} {k : Nat} {x : Int} {l : List Int} (h : Zgi x) (hl : l.length = 7 * k) (hk : 7 * (k : Int) < bits) :
 ((∃ i, i < 7 /\ Ztj true bits k x l i) \/ (7 * ((k : Int) + 1) >= bits /\ x >= 128)) ↔ (bits - ((7 * k : Nat) : Int) <= 7 /\ ((sx x / 2 ^ (bits - ((7 * k : Nat) : Int) - 1).toNat ≠ 0 /\ sx x / 2 ^ (bits - ((7 * k : Nat) : Int) - 1).toNat ≠ -1) \/ x >= 128)) := by
 have hg : bits - ((7 * k : Nat) : Int) <= 7 -> (l ++ ZaN x).getD (bits - 1).toNat 0 = ZeH x (((bits - ((7 * k : Nat) : Int) - 1).toNat : Nat) : Int) := fun h7 => by
  rw [Yah, Ya8 (by omega), <- Yah, Zwq _ _ (by omega)]
  congr 1; omega
 constructor
 ·rintro (⟨i, hi, hb, h2, _⟩ | ⟨h1, h2⟩)
  ·refine ⟨by omega, .inl ((sg7 h (by omega)).2 ⟨i, hi, by omega, ?_⟩)⟩
   rw [<- hg (by omega)]; exact h2 rfl
  ·exact ⟨by omega, .inr h2⟩
 ·rintro ⟨h1, h2 | h2⟩
  ·obtain ⟨i, hi, hd, hb⟩ := (sg7 h (by omega)).1 h2
   exact .inl ⟨i, hi, by omega, fun _ => by rw [hg h1]; exact hb, fun h => Bool.noConfusion h⟩
  ·exact .inr ⟨by omega, h2⟩
theorem Zyk {l : List Int} {x : Int} (hl : l.length = 63) (m : List Int) : ((l ++ ZaN x) ++ m).take 64 = l ++ [ZeH x 0] := by
 rw [Ya6, List.take_append, hl, Yad (by omega)]; rfl
theorem ZAI (bits : Int) (h64 : bits <= 64) : ∀ (xs : List Int) (k : Nat) (l : List Int) (at_ : Int), bytes xs -> ZcW l -> l.length = 7 * k -> 7 * (k : Int) < bits ->
 uRd bits xs (7 * k) (val l) at_ = (val ((rRd false bits xs k l at_).1.take 64), (rRd false bits xs k l at_).2.1, (rRd false bits xs k l at_).2.2)
 | [], _, _, _, _, _, _, _ => rfl
 | x :: t, k, l, at_, hb, h01, hl, hk => by
   have hx := hb x (List.mem_cons_self ..)
   have hv := Ztn hx hl
   rw [uRd, rRd]
   have hbad := ZE9 (l := l) hx hk
   by_cases c : (bits - ((7 * k : Nat) : Int) < 7 /\ (x % 128) / 2 ^ (bits - ((7 * k : Nat) : Int)).toNat ≠ 0) \/ (bits - ((7 * k : Nat) : Int) <= 7 /\ x >= 128)
   ·rw [if_pos c, if_pos (hbad.2 c)]; rfl
   ·rw [if_neg c, if_neg (fun h => c (hbad.1 h))]
    by_cases h128 : x < 128
    ·rw [if_pos h128, if_pos h128, <- hv]
     have : val ((l ++ ZaN x).take 64) = val (l ++ ZaN x) := by
      by_cases h8 : k <= 8
      ·rw [Yad (by rw [Yal, Zcr]; omega)]
      ·obtain rfl : k = 9 := by omega
       obtain rfl : bits = 64 := by omega
       have ht := Zyk (x := x) (by omega) (l := l) []
       rw [List.append_nil] at ht
       have hz : x % 128 / 2 ^ 1 = 0 := Classical.byContradiction fun h => c (.inl ⟨by decide, h⟩)
       have hx0 := hx.1
       have hb0 : ZeH x 0 = x % 128 := by
        show x / 2 ^ 0 % 2 = _
        simp only [Int.pow_zero, Int.ediv_one, Int.reducePow] at hz ⊢; omega
       rw [ht, hv, Zdy, hl, hb0]
       simp only [val, Int.mul_zero, Int.add_zero]
       rw [Int.mul_comm]
     simp only [this]
    ·rw [if_neg h128, if_neg h128, <- hv]
     exact ZAI bits h64 t (k + 1) (l ++ ZaN x) (at_ + 1) (fun y hy => hb y (Yaq _ hy)) (ZcH h01 (ZhO x)) (by rw [Yal, Zcr]; omega) (by
      apply Classical.byContradiction; intro h; exact c (.inr ⟨by omega, by omega⟩))
theorem ZFb (xs : List Int) (hb : bytes xs) (at_ bits : Int) : ZaM xs at_ bits = (val ((Zbj false xs at_ bits).1.take 64), (Zbj false xs at_ bits).2.1, (Zbj false xs at_ bits).2.2) := by
 rw [ZaM, Zbj]
 split
 ·rfl
 ·exact ZAI bits (by omega) _ 0 [] at_ (fun x hx => hb x (List.mem_of_mem_drop hx)) (fun b hb => by cases hb) rfl (by omega)
theorem ZyT (n : Nat) (t : Int) : val (List.replicate n t) = t * (2 ^ n - 1) := by
 induction n with
 | zero => simp [val]
 | succ n ih =>
   have e : t * (2 ^ n * 2 - 1) = t * 2 ^ n * 2 - t := by rw [Int.mul_sub, Int.mul_one, <- Int.mul_assoc]
   rw [List.replicate_succ, val, ih, Int.pow_succ, e, Int.mul_sub, Int.mul_one]
   generalize t * 2 ^ n = y
   omega
theorem ZFc {l : List Int} {x bits : Int} {k : Nat} (h64 : bits <= 64) (hk : 7 * (k : Int) < bits) (hx : Zgi x) (h01 : ZcW l) (hl : l.length = 7 * k)
 (c : ¬(bits - ((7 * k : Nat) : Int) <= 7 /\ ((sx x / 2 ^ (bits - ((7 * k : Nat) : Int) - 1).toNat ≠ 0 /\ sx x / 2 ^ (bits - ((7 * k : Nat) : Int) - 1).toNat ≠ -1) \/ x >= 128))) :
 ZuS (7 * k + 7) (val l + x % 128 * 2 ^ (7 * k)) = IntKind.i64.wrap (val (Zd2 (l ++ ZaN x) 64)) := by
 have hvl := Zl2 h01
 rw [hl] at hvl
 have hx0 := hx.1
 by_cases h8 : k <= 8
 ·have hlen : (l ++ ZaN x).length = 7 * k + 7 := by rw [Yal, Zcr, hl]
  have htop : (l ++ ZaN x).getD ((l ++ ZaN x).length - 1) 0 = ZeH x 6 := by
   rw [hlen, Yah, Ya8 (by omega), show 7 * k + 7 - 1 - l.length = 6 from by omega]; rfl
  have he : Zd2 (l ++ ZaN x) 64 = (l ++ ZaN x) ++ List.replicate (64 - (7 * k + 7)) (ZeH x 6) := by
   rw [Zd2, htop, List.take_append, hlen, Yad (by omega), List.take_replicate]
   congr 2; omega
  rw [he, Zdy, Ztn hx hl, hlen, ZyT]
  have hb6 : ZeH x 6 = x % 128 / 64 := by
   show x / 2 ^ 6 % 2 = _
   simp only [Int.reducePow]; omega
  rw [hb6]
  generalize val l = v at *
  have hy0 : 0 <= x % 128 := by omega
  have hy1 : x % 128 < 128 := by omega
  generalize x % 128 = y at *
  clear c hx htop he hlen hb6 hl h01
  have : k = 0 \/ k = 1 \/ k = 2 \/ k = 3 \/ k = 4 \/ k = 5 \/ k = 6 \/ k = 7 \/ k = 8 := by omega
  rcases this with rfl | rfl | rfl | rfl | rfl | rfl | rfl | rfl | rfl <;>
   (simp only [Nat.reduceMul, Nat.reduceAdd, Nat.reduceSub, Int.reducePow, Int.reduceSub] at hvl ⊢
    rw [ZeG (by omega) (by omega)]
    simp only [ZuS, Nat.reduceSub, Int.reducePow]
    split <;> split <;> omega)
 ·obtain ⟨rfl, hlow⟩ := Zyg (x := x) h64 hk h8 (fun h7 => by
   apply Classical.byContradiction; intro hn
   exact c ⟨by omega, .inl ⟨fun h => hn (.inl h), fun h => hn (.inr h)⟩⟩)
  rw [Zd2, Zyk (by omega), Zdy, hl]
  simp only [val, Int.mul_zero, Int.add_zero, Nat.reduceMul, Nat.reduceAdd, Int.reducePow] at hvl ⊢
  have hb0 : ZeH x 0 = x % 2 := by
   show x / 2 ^ 0 % 2 = _
   simp only [Int.pow_zero, Int.ediv_one]
  rw [hb0, ZeG (by omega) (by omega)]
  simp only [ZuS, Nat.reduceSub, Int.reducePow]
  rcases hlow with hlow | hlow <;> rw [hlow] <;> split <;> split <;> omega
theorem ZAJ (bits : Int) (h64 : bits <= 64) : ∀ (xs : List Int) (k : Nat) (l : List Int) (at_ : Int), bytes xs -> ZcW l -> l.length = 7 * k -> 7 * (k : Int) < bits ->
 sRd bits xs (7 * k) (val l) at_ = if (rRd true bits xs k l at_).2.2 = 0 then (IntKind.i64.wrap (val (Zd2 (rRd true bits xs k l at_).1 64)), (rRd true bits xs k l at_).2.1, 0) else (0, 0, (rRd true bits xs k l at_).2.2)
 | [], _, _, _, _, _, _, _ => rfl
 | x :: t, k, l, at_, hb, h01, hl, hk => by
   have hx := hb x (List.mem_cons_self ..)
   have hv := Ztn hx hl
   rw [sRd, rRd]
   have hbad := ZFa hx hl hk
   by_cases c : bits - ((7 * k : Nat) : Int) <= 7 /\ ((sx x / 2 ^ (bits - ((7 * k : Nat) : Int) - 1).toNat ≠ 0 /\ sx x / 2 ^ (bits - ((7 * k : Nat) : Int) - 1).toNat ≠ -1) \/ x >= 128)
   ·rw [if_pos c, if_pos (hbad.2 c)]; rfl
   ·rw [if_neg c, if_neg (fun h => c (hbad.1 h))]
    by_cases h128 : x < 128
    ·rw [if_pos h128, if_pos h128, ZFc h64 hk hx h01 hl c]; rfl
    ·rw [if_neg h128, if_neg h128, <- hv]
     exact ZAJ bits h64 t (k + 1) (l ++ ZaN x) (at_ + 1) (fun y hy => hb y (Yaq _ hy)) (ZcH h01 (ZhO x)) (by rw [Yal, Zcr]; omega) (by
      apply Classical.byContradiction; intro h; exact c ⟨by omega, .inr (by omega)⟩)
theorem ZFd (xs : List Int) (hb : bytes xs) (at_ bits : Int) : Zad xs at_ bits = if (Zbj true xs at_ bits).2.2 = 0 then (IntKind.i64.wrap (val (Zd2 (Zbj true xs at_ bits).1 64)), (Zbj true xs at_ bits).2.1, 0) else (0, 0, (Zbj true xs at_ bits).2.2) := by
 rw [Zad, Zbj]
 split
 ·rfl
 ·exact ZAJ bits (by omega) _ 0 [] at_ (fun x hx => hb x (List.mem_of_mem_drop hx)) (fun b hb => by cases hb) rfl (by omega)
theorem ZC5 (xs : List Int) (hb : bytes xs) (hlen : xs.length <= 1000000000000000) (at_ bits : Int) :
 AC Tryz.prog 136 [.view xs.length 1 (Zh .u8 xs), .int .i64 at_, .int .i64 bits] (fun r m => r = .tup [.int .u64 (ZaM xs at_ bits).1, .int .i64 (ZaM xs at_ bits).2.1, .int .i64 (ZaM xs at_ bits).2.2] /\ m = []) := by
 rw [ZFb xs hb]; exact ZC2 xs hb hlen at_ bits
theorem ZyU (xs : List Int) (hb : bytes xs) (hlen : xs.length <= 1000000000000000) (at_ bits : Int) :
 AC Tryz.prog 142 [.view xs.length 1 (Zh .u8 xs), .int .i64 at_, .int .i64 bits] (fun r m => r = .tup [.int .i64 (Zad xs at_ bits).1, .int .i64 (Zad xs at_ bits).2.1, .int .i64 (Zad xs at_ bits).2.2] /\ m = []) := by
 have := ZC3 xs hb hlen at_ bits
 rw [ZFd xs hb]
 by_cases h : (Zbj true xs at_ bits).2.2 = 0
 ·rw [if_pos h] at this ⊢; exact this
 ·rw [if_neg h] at this ⊢; exact this
end Go.Proofs.YtimhmpdfioihlaaGreatDoor
namespace Go.Proofs.YtimhmpdfioihlaaGreatDoor
set_option maxRecDepth 20000
open Go Go.Abs
attribute [local irreducible] AW AWL AC FW CW CWr IntKind.wrap
def Zjf (i : Znw) : V := .agg [.int .i64 i.1, .int .i64 i.2.1, .bool i.2.2.1, .view i.2.2.2.1.length 1 (Zh .i64 i.2.2.2.1), .view i.2.2.2.2.length 1 (Zh .i64 i.2.2.2.2)]
theorem Zma (i : Znw) (b : Bool) : ZpV 3004 (Zh .i64 i.2.2.2.2) (ZpV 3003 (Zh .i64 i.2.2.2.1) (.tup [Ztf i, .bool b])) = .tup [Zjf i, .bool b] := by
 simp [ZpV, Ztf, Zjf, V.frz, V.wipe, Yad (Nat.le_of_eq (Za .i64 _))]
theorem Zy1 (op : Int) : AC Tryz.prog 128 [.int .i64 op] (fun r m => r = .tup [Zjf (ofS op).1, .bool (ofS op).2] /\ m = []) := by
 have := (ZC6 op).frzF.frzF
 rw [Zma] at this
 exact this
theorem Zky (op : Int) : AC Tryz.prog 147 [.int .i64 op] (fun r m => r = .tup [Zjf (ofS op).1, .bool (ofS op).2] /\ m = []) := by
 have := (ZAS op).frzF.frzF
 rw [Zma] at this
 exact this
end Go.Proofs.YtimhmpdfioihlaaGreatDoor
