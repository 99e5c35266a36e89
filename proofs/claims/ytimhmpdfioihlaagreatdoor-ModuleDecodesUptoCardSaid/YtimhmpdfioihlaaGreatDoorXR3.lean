/- fields, of the document, but for tables. -/
import Derived.Test.YtimhmpdfioihlaaGreatDoorDP
import Derived.Test.YtimhmpdfioihlaaGreatDoorGWords
import Derived.Test.YtimhmpdfioihlaaGreatDoorGCB
import Derived.Test.YtimhmpdfioihlaaGreatDoorXR1
import Derived.Test.YtimhmpdfioihlaaGreatDoorGXR2
set_option linter.unusedSimpArgs false
set_option linter.unusedVariables false
set_option maxHeartbeats 12800000
namespace Go.Proofs.YtimhmpdfioihlaaGreatDoor
set_option maxRecDepth 20000
open Go Go.Abs Nat
attribute [local irreducible] AW AWL AC FW CW CWr IntKind.wrap
section
def Zz5 (op : Int) : List V := [.int .i64 op, .int .i64 0, .int .i64 0, .int .u64 0, .int .u64 0, .nils]
theorem ZFn.NM : type_of% @MB.NM /\ type_of% @Zfy.eq_1 :=
 ⟨MB.NM, @Zfy.eq_1⟩
open ZFn
theorem ZBg.cl {p : Prop} (h : p := by
 first
  | refine AWL.frzG rfl rfl rfl ?_
  | refine AWL.cC (f := 119) Zsg rfl rfl rfl rfl rfl rfl (hn1) ?_
  | refine AWL.cC (f := 119) Zsg rfl rfl rfl rfl rfl rfl (hn2) ?_
  | refine AWL.cC (f := 165) ZCE rfl rfl rfl rfl rfl rfl (hkd) ?_
  | refine AWL.cC (f := 142) ZAl rfl rfl rfl rfl rfl rfl (hsg) ?_
  | refine AWL.cC (f := 166) ZAn rfl rfl rfl rfl rfl rfl (hdo) ?_
  | refine AWL.cC (f := 167) ZCF rfl rfl rfl rfl rfl rfl (hby) ?_
 all_goals (apply_rules (newGoals := .nonDependentOnly) only [dep]; exact ())) : p := h
theorem ZBg.sd {p : Prop} (h : p := by first | exact Zvk) : p := h
open ZBg Zs9 in
theorem ZqA (b : List Int) (hb : bytes b) (hlen : b.length <= 1000000000) (p : Nat) (hp : p <= b.length) (op form : Int) (hf4 : form ≠ 4) :
 AC Tryz.prog 148 [.view b.length 1 (Zh .u8 b), .int .i64 (p : Int), .agg (Zz5 op), .int .i64 form] (fun v m => v = .tup [.agg (Zfy (Zjg b p ⟨op, 0, 0, 0, 0, []⟩ form).1), .int .i64 (Zjg b p ⟨op, 0, 0, 0, 0, []⟩ form).2.1, .int .i64 (Zjg b p ⟨op, 0, 0, 0, 0, []⟩ form).2.2] /\ m = []) := by
 have hn1 : True := trivial
 have hn2 : True := trivial
 have hkd : True := trivial
 have hsg : True := trivial
 have hdo : True := trivial
 have hby : True := trivial
 have hx8 : True := trivial
 have ew : True := trivial
 have ez : True := trivial
 have ex : True := trivial
 have hcs : form = 1 \/ form = 2 \/ form = 3 \/ form = 5 \/ form = 6 \/ form = 7 \/ form = 8 \/ form = 9 \/ form = 10 \/ (form ≠ 1 /\ form ≠ 2 /\ form ≠ 3 /\ form ≠ 5 /\ form ≠ 6 /\ form ≠ 7 /\ form ≠ 8 /\ form ≠ 9 /\ form ≠ 10) := by omega
 obtain ⟨A, hA⟩ : ∃ A, Zjg b p ⟨op, 0, 0, 0, 0, []⟩ form = A := ⟨_, rfl⟩
 rw [hA]
 unfold Zjg at hA
 have hN := Zi2 b hb hlen p ⟨by omega, by omega⟩
 have hNo := ZeU hb (p := (p : Int)) ⟨by omega, by omega⟩
 have hN2 := fun (z : Int) (h : 0 <= z /\ z <= b.length) => Zi2 b hb hlen z h
 have hN2o := fun (z : Int) (h : 0 <= z /\ z <= b.length) => ZeU hb h
 rcases hcs with rfl | rfl | rfl | rfl | rfl | rfl | rfl | rfl | rfl | ⟨g1, g2, g3, g5, g6, g7, g8, g9, g10⟩
 case' inl => rw [if_pos rfl] at hA
 case' inr.inl =>
  rw [if_neg (by decide), if_pos rfl] at hA
  have hkd := Zw6 b hb hlen p hp
  generalize Zmm b p = z at hA hkd
  obtain ⟨n, to, e⟩ := z
 case' inr.inr.inl =>
  rw [if_neg (by decide), if_neg (by decide), if_neg (by decide), if_pos (by decide)] at hA
  generalize Zar b p = z at hA hN hNo
  obtain ⟨n, to⟩ := z
  have hn1 := hN
  have hdo := Zcg ⟨op, n, 0, 0, 0, []⟩ to
  simp only at hA
  generalize ZbE ⟨op, n, 0, 0, 0, []⟩ to = y at hA hdo
  obtain ⟨y1, y2, y3⟩ := y
 case' inr.inr.inr.inl =>
  rw [if_neg (by decide), if_neg (by decide), if_neg (by decide), if_pos (by decide)] at hA
  generalize Zar b p = z at hA hN hNo
  obtain ⟨n, to⟩ := z
  have hn1 := hN
  have hdo := Zcg ⟨op, n, 0, 0, 0, []⟩ to
  simp only at hA
  generalize ZbE ⟨op, n, 0, 0, 0, []⟩ to = y at hA hdo
  obtain ⟨y1, y2, y3⟩ := y
 case' inr.inr.inr.inr.inl =>
  rw [if_neg (by decide), if_neg (by decide), if_neg (by decide), if_neg (by decide), if_pos (by decide)] at hA
  generalize Zar b p = z at hA hN hNo
  obtain ⟨n, to⟩ := z
  have hn1 := hN
  simp only at hA hNo
  by_cases h0 : to >= 0
  case' pos =>
   have hn2 := hN2 to ⟨h0, by omega⟩
   have hn2o := hN2o to ⟨h0, by omega⟩
   unfold ZbF at hA
   rw [if_pos h0] at hA
   generalize Zar b to = z at hA hn2 hn2o
   obtain ⟨n2, to2⟩ := z
   simp only at hA hn2o
   have hdo := Zcg ⟨op, n, n2, 0, 0, []⟩ to2
   generalize ZbE ⟨op, n, n2, 0, 0, []⟩ to2 = y at hA hdo
   obtain ⟨y1, y2, y3⟩ := y
  case' neg =>
   unfold ZbF at hA
   rw [if_neg h0] at hA
   simp only at hA
   have hdo := Zcg ⟨op, n, 0, 0, 0, []⟩ to
   generalize ZbE ⟨op, n, 0, 0, 0, []⟩ to = y at hA hdo
   obtain ⟨y1, y2, y3⟩ := y
 case' inr.inr.inr.inr.inr.inl =>
  rw [if_neg (by decide), if_neg (by decide), if_neg (by decide), if_neg (by decide), if_pos (by decide)] at hA
  generalize Zar b p = z at hA hN hNo
  obtain ⟨n, to⟩ := z
  have hn1 := hN
  simp only at hA hNo
  by_cases h0 : to >= 0
  case' pos =>
   have hn2 := hN2 to ⟨h0, by omega⟩
   have hn2o := hN2o to ⟨h0, by omega⟩
   unfold ZbF at hA
   rw [if_pos h0] at hA
   generalize Zar b to = z at hA hn2 hn2o
   obtain ⟨n2, to2⟩ := z
   simp only at hA hn2o
   have hdo := Zcg ⟨op, n, n2, 0, 0, []⟩ to2
   generalize ZbE ⟨op, n, n2, 0, 0, []⟩ to2 = y at hA hdo
   obtain ⟨y1, y2, y3⟩ := y
  case' neg =>
   unfold ZbF at hA
   rw [if_neg h0] at hA
   simp only at hA
   have hdo := Zcg ⟨op, n, 0, 0, 0, []⟩ to
   generalize ZbE ⟨op, n, 0, 0, 0, []⟩ to = y at hA hdo
   obtain ⟨y1, y2, y3⟩ := y
 case' inr.inr.inr.inr.inr.inr.inl =>
  rw [if_neg (by decide), if_neg (by decide), if_neg (by decide), if_neg (by decide), if_neg (by decide), if_pos (by decide)] at hA
  generalize Zar b p = z at hA hN hNo
  obtain ⟨n, to⟩ := z
  have hn1 := hN
  simp only at hA hNo
  by_cases h0 : to < 0
  case' pos =>
   unfold ZbF at hA
   simp only [if_neg (show ¬ to >= 0 by omega)] at hA
   rw [if_neg (show ¬ to >= (b.length : Int) by omega)] at hA
   have hdo := Zcg ⟨op, n, 0, 0, 0, []⟩ to
   generalize ZbE ⟨op, n, 0, 0, 0, []⟩ to = y at hA hdo
   obtain ⟨y1, y2, y3⟩ := y
  case' neg =>
   have hn2 := hN2 to ⟨by omega, by omega⟩
   have hn2o := hN2o to ⟨by omega, by omega⟩
   unfold ZbF at hA
   simp only [if_pos (show to >= 0 by omega)] at hA
   generalize Zar b to = z at hA hn2 hn2o
   obtain ⟨n2, to2⟩ := z
   simp only at hA hn2o
   by_cases h1 : to2 >= b.length
  case' pos => rw [if_pos h1] at hA
  case' neg =>
   rw [if_neg h1] at hA
   by_cases h2 : to2 >= 0
  case' neg =>
   rw [if_neg h2] at hA
   have hdo := Zcg ⟨op, n, n2, 0, 0, []⟩ to2
   generalize ZbE ⟨op, n, n2, 0, 0, []⟩ to2 = y at hA hdo
   obtain ⟨y1, y2, y3⟩ := y
  case' pos =>
   rw [if_pos h2] at hA
   obtain ⟨k, rfl⟩ : ∃ k : Nat, to2 = k := ⟨to2.toNat, by omega⟩
   rw [Yap] at hA
   have hxk := hb _ (Z8 (show k < b.length by omega))
   have hxk1 := hxk.1
   have hxk2 := hxk.2
   have ew : IntKind.u64.wrap (b.getD k 0) = b.getD k 0 := ZaC rfl hxk1 (by show _ < (18446744073709551616 : Int); omega)
   have ez : IntKind.i64.wrap ((k : Int) + 1) = (k : Int) + 1 := Zb _ (by omega) (by omega)
   have hdo := Zcg ⟨op, n, n2, b.getD k 0, 0, []⟩ ((k : Int) + 1)
   generalize ZbE ⟨op, n, n2, b.getD k 0, 0, []⟩ ((k : Int) + 1) = y at hA hdo
   obtain ⟨y1, y2, y3⟩ := y
 case' inr.inr.inr.inr.inr.inr.inr.inl =>
  rw [if_neg (by decide), if_neg (by decide), if_neg (by decide), if_neg (by decide), if_neg (by decide), if_neg (by decide), if_pos (by decide)] at hA
  have hsg := ZyU b hb (by omega) p 32
  generalize Zad b p 32 = z at hA hsg
  obtain ⟨n, to, e⟩ := z
  simp only at hA hsg
  have ew : IntKind.u64.wrap n = n % 18446744073709551616 := ZaY (k := .u64) rfl _
  have ez : Int.tmod (n % 18446744073709551616) 4294967296 = n % 4294967296 := by rw [Int.tmod_eq_emod_of_nonneg (by omega)]; omega
  have hdo := Zcg ⟨op, 0, 0, n % 4294967296, 0, []⟩ (if e ≠ 0 then -1 else to)
  by_cases he : e = 0
  case' pos => rw [if_neg (fun h => h he)] at hA hdo
  case' neg => rw [if_pos he] at hA hdo
  case' pos => generalize ZbE ⟨op, 0, 0, n % 4294967296, 0, []⟩ to = y at hA hdo
  case' neg => generalize ZbE ⟨op, 0, 0, n % 4294967296, 0, []⟩ (-1) = y at hA hdo
  all_goals obtain ⟨y1, y2, y3⟩ := y
 case' inr.inr.inr.inr.inr.inr.inr.inr.inl =>
  rw [if_neg (by decide), if_neg (by decide), if_neg (by decide), if_neg (by decide), if_neg (by decide), if_neg (by decide), if_neg (by decide), if_pos (by decide)] at hA
  have hsg := ZyU b hb (by omega) p 64
  generalize Zad b p 64 = z at hA hsg
  obtain ⟨n, to, e⟩ := z
  simp only at hA hsg
  have ew : IntKind.u64.wrap n = n % 18446744073709551616 := ZaY (k := .u64) rfl _
  have hdo := Zcg ⟨op, 0, 0, n % 18446744073709551616, 0, []⟩ (if e ≠ 0 then -1 else to)
  by_cases he : e = 0
  case' pos => rw [if_neg (fun h => h he)] at hA hdo
  case' neg => rw [if_pos he] at hA hdo
  case' pos => generalize ZbE ⟨op, 0, 0, n % 18446744073709551616, 0, []⟩ to = y at hA hdo
  case' neg => generalize ZbE ⟨op, 0, 0, n % 18446744073709551616, 0, []⟩ (-1) = y at hA hdo
  all_goals obtain ⟨y1, y2, y3⟩ := y
 case' inr.inr.inr.inr.inr.inr.inr.inr.inr =>
  rw [if_neg g1, if_neg g2, if_neg hf4, if_neg (by omega), if_neg (by omega), if_neg g8, if_neg g9, if_neg g10] at hA
  have hby := Zw8 b hb hlen p hp ⟨op, 0, 0, 0, 0, []⟩ form
  generalize Zpv b p ⟨op, 0, 0, 0, 0, []⟩ form = y at hA hby
  obtain ⟨y1, y2, y3⟩ := y
 all_goals
  subst hA
  unfold Zz5
  refine AC.enter Tryz.func148 rfl (Yaa rfl) ?_
  simp only [Tryz.f148]
  have nx := aI @ew (aI @ez trivial)
  refine' Zwg
  all_goals first | exact ⟨trivial, trivial⟩ | exact ⟨rfl, trivial⟩ | exact ⟨rfl, rfl⟩ | exact ⟨trivial, rfl⟩ | (exfalso; omega) | trace_state
end
end Go.Proofs.YtimhmpdfioihlaaGreatDoor
