/- SameInstr, Same. -/
import Derived.Test.YteppkbaeacndiaaDP
import Derived.Test.YteppkbaeacndiaaDB
import Derived.Test.YteppkbaeacndiaaGCB
import Derived.Test.YteppkbaeacndiaaGXSt
import Derived.Test.YteppkbaeacndiaaGRS
set_option linter.unusedSimpArgs false
set_option linter.unusedVariables false
namespace Go.Proofs.Yteppkbaeacndiaa
set_option maxRecDepth 20000
open Go Go.Abs Nat
theorem cb20 : callable Try.prog 20 = true := by kernel_rfl
attribute [local irreducible] AW AWL AC FW CW CWr IntKind.wrap
def ins00 : Ins := ⟨0, 0, 0, 0, 0, []⟩
theorem codeC_drop (l : List Ins) (k : Nat) : List.drop (k * 6) (codeC l) = codeC (l.drop k) := by
  induction l generalizing k with
  | nil => simp [codeC]
  | cons i l ih =>
    cases k with
    | zero => rfl
    | succ k =>
      have : codeC (i :: l) = insC i ++ codeC l := rfl
      rw [this, List.drop_succ_cons, <- ih k, show (k + 1) * 6 = (insC i).length + k * 6 by show _ = 6 + _; omega, List.drop_append, List.drop_of_length_le (by omega), List.nil_append, Nat.add_sub_cancel_left]
theorem codeC_at (l : List Ins) {k : Nat} (h : k < l.length) : List.drop (k * 6) (codeC l) = insC (l.getD k ins00) ++ codeC (l.drop (k + 1)) := by
  rw [codeC_drop]
  have e : l.drop k = l.getD k ins00 :: l.drop (k + 1) := by
    rw [List.drop_eq_getElem_cons h, List.getD_eq_getElem?_getD, List.getElem?_eq_getElem h]; rfl
  rw [e]; rfl
theorem codeC_load (l : List Ins) {k : Nat} (h : k < l.length) : List.take 6 (List.drop (k * 6) (codeC l)) = insC (l.getD k ins00) := by rw [codeC_at l h]; rfl
theorem codeC_room (l : List Ins) {k : Nat} (h : k < l.length) : 6 <= (List.drop (k * 6) (codeC l)).length := by rw [codeC_at l h, List.length_append]; show 6 <= 6 + _; omega
def T5s (i1 i2 : Ins) (k : Nat) : St := { n := 66, slots := [(2, .ptr 2 0), (3, .ptr 3 0), (5, .int .i64 (k : Int))], mem := [(2, ⟨false, [.int .i64 i1.op, .int .i64 i1.a, .int .i64 i1.b, .int .u64 i1.lo, .int .u64 i1.hi, .view i1.l.length 1 (nums .i64 i1.l)]⟩), (3, ⟨false, [.int .i64 i2.op, .int .i64 i2.a, .int .i64 i2.b, .int .u64 i2.lo, .int .u64 i2.hi, .view i2.l.length 1 (nums .i64 i2.l)]⟩)] }
def T5c (a b : List Ins) (k : Nat) : St := { n := 27, slots := [(0, .view a.length 6 (codeC a)), (1, .view b.length 6 (codeC b)), (5, .int .i64 (k : Int))], mem := [] }
theorem take_next {α : Type} {a b : List α} (d : α) {k : Nat} (ha : k < a.length) (hb : k < b.length) (h : a.take k = b.take k) (he : a.getD k d = b.getD k d) : a.take (k + 1) = b.take (k + 1) := by
  rw [List.take_add_one, List.take_add_one, h, List.getElem?_eq_getElem ha, List.getElem?_eq_getElem hb]
  rw [List.getD_eq_getElem?_getD, List.getD_eq_getElem?_getD, List.getElem?_eq_getElem ha, List.getElem?_eq_getElem hb] at he
  simp only [Option.getD_some] at he
  rw [he]
theorem MXSame.NM : type_of% @NSX /\ type_of% @St.keepS.eq_1 /\ type_of% @TY /\ type_of% @SLS /\ type_of% @nums_length /\ type_of% @T5s.eq_1 /\ type_of% @T5c.eq_1 :=
  ⟨NSX, St.keepS.eq_1, @TY, @SLS, @nums_length, @T5s.eq_1, @T5c.eq_1⟩
open MXSame
theorem K1XSame.kp {P : Program} {c : Code} {Q : Exit -> St -> Prop} {st : St} (h : AW P c Q (st.keepS [0, 1, 2, 3, 4, 5])) : AW P c Q st := AW.keepS _ h
theorem K1XSame.cl {p : Prop} (h : p := by
  first
    | refine AWL.frzG rfl rfl rfl ?_
  all_goals (apply_rules (newGoals := .nonDependentOnly) only [dep])
  all_goals constructor) : p := h
theorem K1XSame.sd {p : Prop} (h : p := by first | exact sd8f4301) : p := h
theorem K2XSame.kp {P : Program} {c : Code} {Q : Exit -> St -> Prop} {st : St} (h : AW P c Q (st.keepS [0, 1, 4, 5])) : AW P c Q st := AW.keepS _ h
theorem K2XSame.cl {p : Prop} (h : p := by
  first
    | refine AWL.frzG rfl rfl rfl ?_
    | refine AWL.cC (f := 20) cb20 rfl rfl rfl rfl rfl rfl (hsi) ?_
  all_goals (apply_rules (newGoals := .nonDependentOnly) only [dep])
  all_goals constructor) : p := h
theorem K2XSame.sd {p : Prop} (h : p := by first | exact sd8f4301) : p := h
open K1XSame in
set_option maxHeartbeats 6400000 in
theorem samei_ok (i1 i2 : Ins) (h1 : i1.l.length <= 1000000000000) (h2 : i2.l.length <= 1000000000000) : AC Try.prog 20 [.fagg (insC i1), .fagg (insC i2)] (fun v m => v = .bool (decide (i1 = i2)) /\ m = []) := by
  unfold insC
  refine AC.enter Try.func20 rfl (Nat.le_of_ble_eq_true rfl) ?_
  simp only [Try.f20]
  by_cases hh : i1.op = i2.op /\ i1.a = i2.a /\ i1.b = i2.b /\ i1.lo = i2.lo /\ i1.hi = i2.hi /\ i1.l.length = i2.l.length
  · obtain ⟨e1, e2, e3, e4, e5, e6⟩ := hh
    have nx : True := trivial
    refine' sta3e55a
    refine AW.loop [2, 3, 5] [2, 3] (fun m st => ∃ k : Nat, st = T5s i1 i2 k /\ k <= i1.l.length /\ i1.l.take k = i2.l.take k /\ m = i1.l.length - k) ?_ ?_
    · exact ⟨_, 0, rfl, Nat.zero_le _, rfl, rfl⟩
    rintro m st ⟨k, rfl, hk, ht, rfl⟩
    by_cases hkl : k < i1.l.length
    · have e7 : IntKind.i64.wrap ((k : Int) + 1) = ((k + 1 : Nat) : Int) := wrap64_id _ (by omega) (by omega)
      have hd1 : decide ((k : Int) < (i1.l.length : Int)) = true := decide_eq_true (by omega)
      by_cases he : i1.l.getD k 0 = i2.l.getD k 0
      · have htn := take_next (0 : Int) hkl (by omega) ht he
        have nx : type_of% @e7 /\ type_of% @hd1 /\ True := ⟨@e7, ⟨@hd1, trivial⟩⟩
        refine' sta3e55a
        all_goals first
          | exact ⟨i1.l.length - (k + 1), by omega, k + 1, rfl, by omega, htn, rfl⟩
          | trace_state
      · have hne : decide (i1 = i2) = false := decide_eq_false (fun h => he (by rw [h]))
        have nx : type_of% @e7 /\ type_of% @hd1 /\ True := ⟨@e7, ⟨@hd1, trivial⟩⟩
        refine' sta3e55a
        all_goals first | exact ⟨trivial, trivial⟩ | exact ⟨rfl, trivial⟩ | exact ⟨rfl, rfl⟩ | exact ⟨trivial, rfl⟩ | (rw [hne]; exact ⟨rfl, trivial⟩) | (exfalso; omega) | trace_state
    · have hk2 : k = i1.l.length := by omega
      have hd1 : decide ((k : Int) < (i1.l.length : Int)) = false := decide_eq_false (by omega)
      rw [hk2, List.take_length, e6, List.take_length] at ht
      have hye : decide (i1 = i2) = true := decide_eq_true (by cases i1; cases i2; simp only at *; subst e1 e2 e3 e4 e5 ht; rfl)
      have nx : type_of% @hd1 /\ True := ⟨@hd1, trivial⟩
      refine' sta3e55a
      all_goals first | exact ⟨trivial, trivial⟩ | exact ⟨rfl, trivial⟩ | exact ⟨rfl, rfl⟩ | exact ⟨trivial, rfl⟩ | (rw [hye]; exact ⟨rfl, trivial⟩) | (exfalso; omega) | trace_state
  · have hne : decide (i1 = i2) = false := decide_eq_false (fun h => hh (by rw [h]; exact ⟨rfl, rfl, rfl, rfl, rfl, rfl⟩))
    have nx : True := trivial
    refine' sta3e55a
    all_goals first | exact ⟨trivial, trivial⟩ | exact ⟨rfl, trivial⟩ | exact ⟨rfl, rfl⟩ | exact ⟨trivial, rfl⟩ | (rw [hne]; exact ⟨rfl, trivial⟩) | (exfalso; omega) | trace_state
open K2XSame in
set_option maxHeartbeats 6400000 in
theorem same_ok (a b : List Ins) (ha : a.length <= 1000000000000) (hb : b.length <= 1000000000000) (hla : ∀ i ∈ a, i.l.length <= 1000000000000) (hlb : ∀ i ∈ b, i.l.length <= 1000000000000) : AC Try.prog 12 [.view a.length 6 (codeC a), .view b.length 6 (codeC b)] (fun v m => v = .bool (decide (a = b)) /\ m = []) := by
  have hsi : True := trivial
  refine AC.enter Try.func12 rfl (Nat.le_of_ble_eq_true rfl) ?_
  simp only [Try.f12]
  by_cases hl : a.length = b.length
  · have nx : True := trivial
    refine' st919c4b
    refine AW.loop [0, 1, 5] [] (fun m st => ∃ k : Nat, st = T5c a b k /\ k <= a.length /\ a.take k = b.take k /\ m = a.length - k) ?_ ?_
    · exact ⟨_, 0, rfl, Nat.zero_le _, rfl, rfl⟩
    rintro m st ⟨k, rfl, hk, ht, rfl⟩
    by_cases hkl : k < a.length
    · have e7 : IntKind.i64.wrap ((k : Int) + 1) = ((k + 1 : Nat) : Int) := wrap64_id _ (by omega) (by omega)
      have hd1 : decide ((k : Int) < (a.length : Int)) = true := decide_eq_true (by omega)
      have l1 := codeC_load a hkl
      have l2 := codeC_load b (k := k) (by omega)
      have r1 := codeC_room a hkl
      have r2 := codeC_room b (k := k) (by omega)
      have m1 := hla (a.getD k ins00) (by rw [List.getD_eq_getElem?_getD, List.getElem?_eq_getElem hkl]; exact List.getElem_mem _)
      have m2 := hlb (b.getD k ins00) (by rw [List.getD_eq_getElem?_getD, List.getElem?_eq_getElem (show k < b.length by omega)]; exact List.getElem_mem _)
      have hsi := samei_ok _ _ m1 m2
      by_cases he : a.getD k ins00 = b.getD k ins00
      · have htn := take_next ins00 hkl (by omega) ht he
        rw [decide_eq_true he] at hsi
        have nx : type_of% @e7 /\ type_of% @hd1 /\ type_of% @l1 /\ type_of% @l2 /\ True := ⟨@e7, ⟨@hd1, ⟨@l1, ⟨@l2, trivial⟩⟩⟩⟩
        refine' st919c4b
        all_goals first
          | exact ⟨a.length - (k + 1), by omega, k + 1, rfl, by omega, htn, rfl⟩
          | trace_state
      · have hne : decide (a = b) = false := decide_eq_false (fun h => he (by rw [h]))
        rw [decide_eq_false he] at hsi
        have nx : type_of% @e7 /\ type_of% @hd1 /\ type_of% @l1 /\ type_of% @l2 /\ True := ⟨@e7, ⟨@hd1, ⟨@l1, ⟨@l2, trivial⟩⟩⟩⟩
        refine' st919c4b
        all_goals first | exact ⟨trivial, trivial⟩ | exact ⟨rfl, trivial⟩ | exact ⟨rfl, rfl⟩ | exact ⟨trivial, rfl⟩ | (rw [hne]; exact ⟨rfl, trivial⟩) | (exfalso; omega) | trace_state
    · have hk2 : k = a.length := by omega
      have hd1 : decide ((k : Int) < (a.length : Int)) = false := decide_eq_false (by omega)
      rw [hk2, List.take_length, hl, List.take_length] at ht
      have hye : decide (a = b) = true := decide_eq_true ht
      have nx : type_of% @hd1 /\ True := ⟨@hd1, trivial⟩
      refine' st919c4b
      all_goals first | exact ⟨trivial, trivial⟩ | exact ⟨rfl, trivial⟩ | exact ⟨rfl, rfl⟩ | exact ⟨trivial, rfl⟩ | (rw [hye]; exact ⟨rfl, trivial⟩) | (exfalso; omega) | trace_state
  · have hne : decide (a = b) = false := decide_eq_false (fun h => hl (by rw [h]))
    have nx : True := trivial
    refine' st919c4b
    all_goals first | exact ⟨trivial, trivial⟩ | exact ⟨rfl, trivial⟩ | exact ⟨rfl, rfl⟩ | exact ⟨trivial, rfl⟩ | (rw [hne]; exact ⟨rfl, trivial⟩) | (exfalso; omega) | trace_state
end Go.Proofs.Yteppkbaeacndiaa
namespace Go.Proofs.Yteppkbaeacndiaa
set_option maxRecDepth 20000
open Go Go.Abs
def closedL : List Int -> List Ins -> Bool
  | _, [] => false
  | o, i :: t =>
    if i.op = 2 \/ i.op = 3 \/ i.op = 4 then (if o.length = 128 then false else closedL (o ++ [i.op]) t)
    else if i.op = 5 then (if o.length = 0 \/ o.getD (o.length - 1) 0 ≠ 4 then false else closedL (o.take (o.length - 1) ++ [5]) t)
    else if i.op = 11 then (if o.length = 0 then decide (t.length = 0) else closedL (o.take (o.length - 1)) t)
    else closedL o t
theorem closed_cases {o : List Int} {i : Ins} {t : List Ins} {A : Bool} (h : closedL o (i :: t) = A) :
    ((i.op = 2 \/ i.op = 3 \/ i.op = 4) /\ o.length = 128 /\ A = false) \/ ((i.op = 2 \/ i.op = 3 \/ i.op = 4) /\ o.length ≠ 128 /\ closedL (o ++ [i.op]) t = A) \/
    (i.op = 5 /\ o.length = 0 /\ A = false) \/ (i.op = 5 /\ (o.length ≠ 0 /\ o.getD (o.length - 1) 0 ≠ 4) /\ A = false) \/ (i.op = 5 /\ (o.length ≠ 0 /\ o.getD (o.length - 1) 0 = 4) /\ closedL (o.take (o.length - 1) ++ [5]) t = A) \/
    (i.op = 11 /\ o.length = 0 /\ A = decide (t.length = 0)) \/ (i.op = 11 /\ o.length ≠ 0 /\ closedL (o.take (o.length - 1)) t = A) \/
    ((i.op ≠ 2 /\ i.op ≠ 3 /\ i.op ≠ 4 /\ i.op ≠ 5 /\ i.op ≠ 11) /\ closedL o t = A) := by
  rw [closedL] at h
  by_cases h2 : i.op = 2 \/ i.op = 3 \/ i.op = 4
  · rw [if_pos h2] at h
    by_cases h1 : o.length = 128
    · rw [if_pos h1] at h; exact .inl ⟨h2, h1, h.symm⟩
    · rw [if_neg h1] at h; exact .inr (.inl ⟨h2, h1, h⟩)
  · rw [if_neg h2] at h
    by_cases h5 : i.op = 5
    · rw [if_pos h5] at h
      by_cases h0 : o.length = 0
      · rw [if_pos (.inl h0)] at h; exact .inr (.inr (.inl ⟨h5, h0, h.symm⟩))
      · by_cases h4 : o.getD (o.length - 1) 0 = 4
        · rw [if_neg (fun h => h.elim h0 (fun h => h h4))] at h; exact .inr (.inr (.inr (.inr (.inl ⟨h5, ⟨h0, h4⟩, h⟩))))
        · rw [if_pos (.inr h4)] at h; exact .inr (.inr (.inr (.inl ⟨h5, ⟨h0, h4⟩, h.symm⟩)))
    · rw [if_neg h5] at h
      by_cases h11 : i.op = 11
      · rw [if_pos h11] at h
        by_cases h0 : o.length = 0
        · rw [if_pos h0] at h; exact .inr (.inr (.inr (.inr (.inr (.inl ⟨h11, h0, h.symm⟩)))))
        · rw [if_neg h0] at h; exact .inr (.inr (.inr (.inr (.inr (.inr (.inl ⟨h11, h0, h⟩))))))
      · rw [if_neg h11] at h
        exact .inr (.inr (.inr (.inr (.inr (.inr (.inr ⟨by omega, h⟩))))))
def numB (n : Int) : Bool := decide (0 <= n /\ n < 4294967296)
def zq4 (a b lo hi : Int) : Bool := decide (a = 0 /\ b = 0 /\ lo = 0 /\ hi = 0)
def restB (i : Ins) (form : Int) : Bool :=
  if form ≠ 4 /\ i.l.length > 0 then false
  else if form = 2 \/ form = 3 \/ form = 5 \/ form = 4 \/ form = 13 then zq4 0 i.b i.lo i.hi
  else if form = 6 \/ form = 7 then zq4 0 0 i.lo i.hi
  else if form = 8 then zq4 0 0 0 i.hi
  else if form = 9 \/ form = 10 then zq4 i.a i.b 0 i.hi
  else if form = 11 \/ form = 12 then zq4 i.a i.b 0 0
  else zq4 i.a i.b i.lo i.hi
def uB (n : Int) : List Int := putU (n % 18446744073709551616).toNat
def i32 (n : Int) : Int := IntKind.i32.wrap n
def i64 (n : Int) : Int := IntKind.i64.wrap n
theorem i32_b (n : Int) : -2147483648 <= i32 n /\ i32 n <= 2147483647 := by
  unfold i32
  show -2147483648 <= (if (true && decide (n % 4294967296 >= 2147483648)) = true then n % 4294967296 - 4294967296 else n % 4294967296) /\ (if (true && decide (n % 4294967296 >= 2147483648)) = true then n % 4294967296 - 4294967296 else n % 4294967296) <= 2147483647
  split
  · rename_i c; simp at c; omega
  · rename_i c; simp at c; omega
theorem i64_b (n : Int) : -9223372036854775808 <= i64 n /\ i64 n <= 9223372036854775807 := by
  unfold i64
  show -9223372036854775808 <= (if (true && decide (n % 18446744073709551616 >= 9223372036854775808)) = true then n % 18446744073709551616 - 18446744073709551616 else n % 18446744073709551616) /\ (if (true && decide (n % 18446744073709551616 >= 9223372036854775808)) = true then n % 18446744073709551616 - 18446744073709551616 else n % 18446744073709551616) <= 9223372036854775807
  split
  · rename_i c; simp at c; omega
  · rename_i c; simp at c; omega
def constP (out : List Int) (i : Ins) (form : Int) : List Int × Bool :=
  if form = 9 then (out ++ putS (i32 i.lo), decide (i.lo < 4294967296))
  else if form = 10 then (out ++ putS (i64 i.lo), true)
  else if form = 13 then (out ++ [i.a % 256], decide (0 <= i.a /\ i.a < 256))
  else if form = 14 then (out ++ [0], true)
  else (out ++ join i.lo i.hi, true)
def opB (op : Int) : List Int := if op >= 64768 then 253 :: uB (op - 64768) else [op % 256]
def oneP (i : Ins) (form : Int) : List Int × Bool :=
  if form = 1 then (opB i.op, true)
  else if form = 2 then (if i.a = -64 \/ i.a = -1 \/ i.a = -2 \/ i.a = -5 then (opB i.op ++ [(i.a + 128) % 256], true) else (opB i.op ++ putS i.a, numB i.a))
  else if form = 3 \/ form = 5 then (opB i.op ++ uB i.a, numB i.a)
  else if form = 4 then (opB i.op ++ uB i.l.length ++ i.l.flatMap uB ++ uB i.a, i.l.all numB && numB i.a)
  else if form = 6 \/ form = 7 then (opB i.op ++ uB i.a ++ uB i.b, numB i.a && numB i.b)
  else if form = 8 then (opB i.op ++ uB i.a ++ uB i.b ++ [i.lo % 256], numB i.a && numB i.b && decide (i.lo < 256))
  else constP (opB i.op) i form
def insP (i : Ins) : List Int × Bool := if (ofS i.op).2 = true /\ restB i (ofS i.op).1.1 = true then oneP i (ofS i.op).1.1 else ([], false)
def allP (code : List Ins) : Bool := code.all fun i => (insP i).2
def bytP (code : List Ins) : List Int := code.flatMap fun i => (insP i).1
def writeS (code : List Ins) : List Int × Int := if closedL [] code = true /\ allP code = true then (bytP code, 0) else ([], 1)
structure okIns (i : Ins) : Prop where
  op : -9223372036854775808 <= i.op /\ i.op <= 9223372036854775807
  a : -9223372036854775808 <= i.a /\ i.a <= 9223372036854775807
  b : -9223372036854775808 <= i.b /\ i.b <= 9223372036854775807
  lo : 0 <= i.lo /\ i.lo < 18446744073709551616
  hi : 0 <= i.hi /\ i.hi < 18446744073709551616
  l : ∀ x ∈ i.l, -9223372036854775808 <= x /\ x <= 9223372036854775807
  n : i.l.length <= 100000000
end Go.Proofs.Yteppkbaeacndiaa
