/- Read, of the document. -/
import Derived.Test.YtimhmpdfioihlaaGreatDoorDP
import Derived.Test.YtimhmpdfioihlaaGreatDoorGWords
import Derived.Test.YtimhmpdfioihlaaGreatDoorGCB
import Derived.Test.YtimhmpdfioihlaaGreatDoorGRowCod
import Derived.Test.YtimhmpdfioihlaaGreatDoorXR4
import Derived.Test.YtimhmpdfioihlaaGreatDoorGXR2
set_option linter.unusedSimpArgs false
set_option linter.unusedVariables false
set_option maxHeartbeats 12800000
namespace Go.Proofs.YtimhmpdfioihlaaGreatDoor
set_option maxRecDepth 20000
open Go Go.Abs Nat
attribute [local irreducible] AW AWL AC FW CW CWr IntKind.wrap
section
theorem ZqC (b : List Int) (hb : bytes b) (hlen : b.length <= 1000000000) (p : Nat) (hp : p <= b.length) (op form : Int) :
 AC Tryz.prog 148 [.view b.length 1 (Zh .u8 b), .int .i64 (p : Int), .agg (Zz5 op), .int .i64 form] (fun v m => v = .tup [.agg (Zfy (Zjg b p ⟨op, 0, 0, 0, 0, []⟩ form).1), .int .i64 (Zjg b p ⟨op, 0, 0, 0, 0, []⟩ form).2.1, .int .i64 (Zjg b p ⟨op, 0, 0, 0, 0, []⟩ form).2.2] /\ m = []) := by
 by_cases h : form = 4
 ·subst h; exact ZqB b hb hlen p hp op
 ·exact ZqA b hb hlen p hp op form h
def T9x (b : List Int) (p : Int) (l : List Ins) (o j : List Int) : St := { n := 105, slots := [(0, .view b.length 1 (Zh .u8 b)), (1, .int .i64 p), (7, .ref 7 0 l.length 6), (8, .ref 8 0 o.length 1)], mem := [(7, ⟨true, Zah l⟩), (8, ⟨true, Zh .i64 (o ++ j)⟩)] }
theorem ZFp.NM : type_of% @MB.NM /\ type_of% @T9x.eq_1 /\ type_of% @Zqm /\ type_of% @Zjf.eq_1 /\ type_of% @Zfy.eq_1 :=
 ⟨MB.NM, @T9x.eq_1, @Zqm, @Zjf.eq_1, @Zfy.eq_1⟩
open ZFp
theorem ZzB.kp : type_of% (@Zs [0, 1, 4, 5, 6, 7, 8, 9, 10, 11, 12, 14]) := @Zs [0, 1, 4, 5, 6, 7, 8, 9, 10, 11, 12, 14]
theorem ZzB.cl {p : Prop} (h : p := by
 first
  | refine AWL.frzG rfl rfl rfl ?_
  | refine AWL.cC (f := 146) ZCy rfl rfl rfl rfl rfl rfl (hop) ?_
  | refine AWL.cC (f := 147) ZAm rfl rfl rfl rfl rfl rfl (hof) ?_
  | refine AWL.cC (f := 148) ZCz rfl rfl rfl rfl rfl rfl (hfd) ?_
 all_goals (apply_rules (newGoals := .nonDependentOnly) only [dep]; exact ())) : p := h
theorem ZzB.sd {p : Prop} (h : p := by first | exact Zvy) : p := h
open ZzB in
theorem Zuh (b : List Int) (hb : bytes b) (hlen : b.length <= 100000000) (p : Int) :
 AC Tryz.prog 137 [.view b.length 1 (Zh .u8 b), .int .i64 p] (fun v m => ∃ k, v = .tup [.ref k 0 (Z6 b p).1.length 6, .int .i64 (Z6 b p).2.1, .int .i64 (Z6 b p).2.2] /\ m = [(k, Zah (Z6 b p).1)]) := by
 have hop : True := trivial
 have hof : True := trivial
 have hfd : True := trivial
 have hE : True := trivial
 obtain ⟨A, hA⟩ : ∃ A, Z6 b p = A := ⟨_, rfl⟩
 rw [hA]
 by_cases hp : p < 0 \/ p > b.length
 ·rw [Zmd hp] at hA
  subst hA
  refine AC.enter Tryz.func137 rfl (Yaa rfl) ?_
  simp only [Tryz.f137]
  have nx := trivial
  refine' Zaw
  all_goals first | exact ⟨trivial, trivial⟩ | exact ⟨rfl, trivial⟩ | exact ⟨rfl, rfl⟩ | exact ⟨trivial, rfl⟩ | exact ⟨4, rfl, rfl⟩ | (exfalso; omega) | trace_state
 unfold Z6 at hA
 rw [if_neg hp] at hA
 refine AC.enter Tryz.func137 rfl (Yaa rfl) ?_
 simp only [Tryz.f137]
 have hlc := Zgo
 have nx := trivial
 refine' Zaw
 refine AW.loop [0, 1, 7, 8] [7, 8] (fun m st => ∃ (n : Nat) (r : Rd) (l : List Ins), st = T9x b r.pos l r.op r.jk /\ Zb6 b r /\ r.err = 0 /\ r.op.length <= 128 /\ (l.length : Int) <= r.pos /\ (b.length : Int) + 1 <= n + r.pos /\ ZcB b n r l = A /\ n = m) ?_ ?_
 ·exact ⟨_, b.length + 1, ⟨p, [], [], 0⟩, [], rfl, ⟨by simp only; omega, by simp only; omega⟩, rfl, Nat.zero_le _, by simp only [List.length_nil]; omega, by simp only; omega, hA, rfl⟩
 rintro m st ⟨n, ⟨pos, o, j, er⟩, l, rfl, hr, he, hol, hll, hn, hL, rfl⟩
 obtain rfl : er = 0 := he
 have hp0 : 0 <= pos := hr.p0
 have hp1 : pos <= b.length := hr.p1
 obtain ⟨k, rfl⟩ : ∃ k : Nat, pos = k := ⟨pos.toNat, by omega⟩
 obtain ⟨n', rfl⟩ : ∃ n', n = n' + 1 := ⟨n - 1, by simp only at hn; omega⟩
 simp only at hol hll hn
 have hop := Zuf b hb (by omega) k (by omega)
 have hst := Zqw hb hr hL
 clear hL hr hA
 generalize Zc5 b k = q at hop hst
 obtain ⟨op, p1, e1⟩ := q
 simp only at hop hst
 have hla : ∀ i : Ins, (l ++ [i]).length = l.length + 1 := fun i => by simp
 have hsn : ∀ i : Ins, Zah l ++ [.int .i64 i.op, .int .i64 i.a, .int .i64 i.b, .int .u64 i.lo, .int .u64 i.hi, .view i.l.length 1 (Zh .i64 i.l)] = Zah (l ++ [i]) := fun i => ZjH l i
 have hcut : List.take (l.length * 6) (Zah l) = Zah l := Yad (by rw [hlc]; omega)
 rcases hst with ⟨hq, rfl⟩ | ⟨rfl, ⟨hpa, hpb⟩, ho, hst⟩
 case' inr =>
  obtain ⟨k1, rfl⟩ : ∃ k1 : Nat, p1 = k1 := ⟨p1.toNat, by omega⟩
  have hof := Zky op
  have hfd := ZqC b hb (by omega) k1 (by omega) op (ofS op).1.1
  have hst := hst _ rfl
  generalize (ofS op).1 = info at hof hfd hst
  generalize Zjg b k1 ⟨op, 0, 0, 0, 0, []⟩ info.1 = f at hfd hst
  obtain ⟨i, p2, e2⟩ := f
  simp only at hfd hst
  unfold Zz5 at hfd
  rcases hst with ⟨hq, rfl⟩ | ⟨rfl, ⟨hpc, hpd⟩, hst⟩
 all_goals
  have nx := trivial
  refine' Zv3
 all_goals try (exact ⟨4, rfl, rfl⟩)
 clear hop hof hfd
 have f1 := hla i
 have f2 := hsn i
 have f3 : o.length ≠ 0 -> IntKind.i64.wrap ((o.length : Int) - 1) = ((o.length - 1 : Nat) : Int) := fun h0 => by rw [Zb _ (by omega) (by omega)]; omega
 have f4 : o.length ≠ 0 -> (Zh .i64 (o ++ j)).getD (o.length - 1) .any = .int .i64 (o.getD (o.length - 1) 0) := fun h0 => by
  have h3 : (o ++ j).getD (o.length - 1) 0 = o.getD (o.length - 1) 0 := by simp only [Yah]; rw [Ya1 (by omega)]
  rw [<- h3]; exact ZhN (by rw [Yal]; omega)
 have f5 : o.length ≠ 0 -> ZuR (o ++ j) (o.length - 1) 5 = o.take (o.length - 1) ++ [5] ++ j := fun h0 => by
  unfold ZuR
  rw [List.take_append_of_le_length (by omega), List.drop_append, Ya7 (by omega), List.nil_append, show o.length - 1 + 1 - o.length = 0 by omega]; rfl
 have f6 : (o ++ [op]).length = o.length + 1 := by simp
 have f7 : o.length ≠ 0 -> (o.take (o.length - 1) ++ [(5 : Int)]).length = o.length := fun h0 => by rw [Yal, Yar]; simp only [Yag, List.length_nil]; omega
 have f8 : (o.take (o.length - 1)).length = o.length - 1 := by rw [Yar]; omega
 unfold Rnd at hst
 rcases hst with ⟨h2, h128, rfl⟩ | ⟨h2, h128, hL⟩ | ⟨h2, h0, rfl⟩ | ⟨h2, ⟨h0, h4⟩, rfl⟩ | ⟨h2, ⟨h0, h4⟩, hL⟩ | ⟨h2, h0, rfl⟩ | ⟨h2, h0, hL⟩ | ⟨h2, hL⟩
 all_goals
  have nx := aI @List.take_left.{0} (aI @Yau.{0} (aI @f1 (aI @f2 (aI @f3 (aI @f4 (aI @f5 (aI @hcut trivial)))))))
  refine' Zaw
  all_goals first
   | exact ⟨4, rfl, rfl⟩
   | exact ⟨7, by rw [f1], rfl⟩
   | exact ⟨n', by omega, n', ⟨p2, o ++ [op], [], 0⟩, l ++ [i], by rw [T9x, f1, f6, List.append_nil]; rfl, ⟨by simp only; omega, hpd⟩, rfl, by rw [f6]; omega, by rw [f1]; simp only; omega, by simp only; omega, hL, rfl⟩
   | exact ⟨n', by omega, n', ⟨p2, o.take (o.length - 1) ++ [5], j, 0⟩, l ++ [i], by rw [T9x, f1, f7 h0]; rfl, ⟨by simp only; omega, hpd⟩, rfl, by rw [f7 h0]; omega, by rw [f1]; simp only; omega, by simp only; omega, hL, rfl⟩
   | exact ⟨n', by omega, n', ⟨p2, o.take (o.length - 1), o.drop (o.length - 1) ++ j, 0⟩, l ++ [i], by rw [T9x, f1, f8, <- Ya6, List.take_append_drop]; rfl, ⟨by simp only; omega, hpd⟩, rfl, by rw [f8]; omega, by rw [f1]; simp only; omega, by simp only; omega, hL, rfl⟩
   | exact ⟨n', by omega, n', ⟨p2, o, j, 0⟩, l ++ [i], by rw [T9x, f1]; rfl, ⟨by simp only; omega, hpd⟩, rfl, hol, by rw [f1]; simp only; omega, by simp only; omega, hL, rfl⟩
theorem Zw9 (b : List Int) (hb : bytes b) (hlen : b.length <= 100000000) (p : Int) :
 AC Tryz.prog 137 [.view b.length 1 (Zh .u8 b), .int .i64 p] (fun v m => v = .tup [.view (Z6 b p).1.length 6 (Zah (Z6 b p).1), .int .i64 (Z6 b p).2.1, .int .i64 (Z6 b p).2.2] /\ m = []) := by
 refine (Zuh b hb hlen p).out fun v m h => ?_
 obtain ⟨k, rfl, rfl⟩ := h
 refine ⟨_, _, ⟨rfl, rfl⟩, fun S w w' u ho => ?_⟩
 have h2 := ho.frz
 have e : ZpV k (Zah (Z6 b p).1) (.tup [.ref k 0 (Z6 b p).1.length 6, .int .i64 (Z6 b p).2.1, .int .i64 (Z6 b p).2.2]) = .tup [.view (Z6 b p).1.length 6 (Zah (Z6 b p).1), .int .i64 (Z6 b p).2.1, .int .i64 (Z6 b p).2.2] := by
  simp only [ZpV, V.frz, V.wipe, List.map_cons, List.map_nil, Ya4, cond_true, List.drop_zero, Yad (Nat.le_of_eq (Zgo (Z6 b p).1))]
 rw [e] at h2; exact h2
end
end Go.Proofs.YtimhmpdfioihlaaGreatDoor
