/- number, rest, closed. -/
import Derived.Test.YteppkbaeacndiaaDP
import Derived.Test.YteppkbaeacndiaaDB
import Derived.Test.YteppkbaeacndiaaGCB
import Derived.Test.YteppkbaeacndiaaGWP
set_option linter.unusedSimpArgs false
set_option linter.unusedVariables false
namespace Go.Proofs.Yteppkbaeacndiaa
set_option maxRecDepth 20000
open Go Go.Abs Nat
attribute [local irreducible] AW AWL AC FW CW CWr IntKind.wrap
def T3w (code : List Ins) (o j : List Int) (k : Nat) : St := { n := 59, slots := [(0, .view code.length 6 (codeC code)), (3, .ref 3 0 o.length 1), (7, .view code.length 6 (codeC code)), (8, .int .i64 code.length), (9, .int .i64 (k : Int))], mem := [(3, ⟨true, nums .i64 (o ++ j)⟩)] }
theorem MWR1.NM : type_of% @NSX /\ type_of% @St.keepS.eq_1 /\ type_of% @TY /\ type_of% @SLS /\ type_of% @nums_length /\ type_of% @T3w.eq_1 :=
  ⟨NSX, St.keepS.eq_1, @TY, @SLS, @nums_length, @T3w.eq_1⟩
open MWR1
theorem K1WR1.kp {P : Program} {c : Code} {Q : Exit -> St -> Prop} {st : St} (h : AW P c Q (st.keepS [0, 2])) : AW P c Q st := AW.keepS _ h
theorem K1WR1.sd {p : Prop} (h : p := by first | exact sd1eb496) : p := h
theorem K2WR1.kp {P : Program} {c : Code} {Q : Exit -> St -> Prop} {st : St} (h : AW P c Q (st.keepS [0, 1, 2, 4, 5, 6, 7, 8, 25])) : AW P c Q st := AW.keepS _ h
theorem K2WR1.sd {p : Prop} (h : p := by first | exact sd8f4301) : p := h
theorem K3WR1.kp {P : Program} {c : Code} {Q : Exit -> St -> Prop} {st : St} (h : AW P c Q (st.keepS [0, 2, 3, 4, 5, 6, 7, 8, 9, 17])) : AW P c Q st := AW.keepS _ h
theorem K3WR1.sd {p : Prop} (h : p := by first | exact sd1eb496) : p := h
open K1WR1 in
theorem xnum_ok (n : Int) : AC Try.prog 44 [.int .i64 n] (fun v m => v = .bool (numB n) /\ m = []) := by
  refine AC.enter Try.func44 rfl (Nat.le_of_ble_eq_true rfl) ?_
  simp only [Try.f44]
  have nx : True := trivial
  refine' stdd4e64
  all_goals first
    | exact ⟨by rw [numB, decide_eq_false (by omega)], trivial⟩
    | exact ⟨by rw [numB]; congr 1; exact decide_eq_decide.2 ⟨fun h => ⟨by omega, by omega⟩, fun h => by omega⟩, trivial⟩
    | trace_state
theorem zq4_f {a b lo hi : Int} (h : ¬(a = 0 /\ b = 0 /\ lo = 0 /\ hi = 0)) : V.bool false = V.bool (zq4 a b lo hi) := by rw [zq4, decide_eq_false h]
theorem zq4_t {a b lo hi : Int} (h : a = 0 /\ b = 0 /\ lo = 0 /\ hi = 0) : V.bool true = V.bool (zq4 a b lo hi) := by rw [zq4, decide_eq_true h]
theorem zq4_d {a b lo hi : Int} {p : Prop} [Decidable p] (h : p ↔ (a = 0 /\ b = 0 /\ lo = 0 /\ hi = 0)) : V.bool (decide p) = V.bool (zq4 a b lo hi) := by rw [zq4]; congr 1; exact decide_eq_decide.2 h
open K2WR1 in
set_option maxHeartbeats 6400000 in
theorem rest_ok (i : Ins) (form : Int) (hl : i.l.length <= 100000000) : AC Try.prog 41 [.agg (insC i), .int .i64 form] (fun v m => v = .bool (restB i form) /\ m = []) := by
  obtain ⟨io, ia, ib, il, ih, ill⟩ := i
  obtain ⟨A, hA⟩ : ∃ A, restB ⟨io, ia, ib, il, ih, ill⟩ form = A := ⟨_, rfl⟩
  rw [hA]
  unfold restB at hA
  simp only at hA hl
  have hb : ∀ x : Int, (x == 0) = decide (x = 0) := fun x => rfl
  unfold insC
  refine AC.enter Try.func41 rfl (Nat.le_of_ble_eq_true rfl) ?_
  simp only [Try.f41]
  by_cases h0 : form ≠ 4 /\ ill.length > 0
  case' pos => rw [if_pos h0] at hA
  case' neg =>
    rw [if_neg h0] at hA
    have hcs : form = 2 \/ form = 3 \/ form = 5 \/ form = 4 \/ form = 13 \/ form = 6 \/ form = 7 \/ form = 8 \/ form = 9 \/ form = 10 \/ form = 11 \/ form = 12 \/ (form ≠ 2 /\ form ≠ 3 /\ form ≠ 5 /\ form ≠ 4 /\ form ≠ 13 /\ form ≠ 6 /\ form ≠ 7 /\ form ≠ 8 /\ form ≠ 9 /\ form ≠ 10 /\ form ≠ 11 /\ form ≠ 12) := by omega
    rcases hcs with h | h | h | h | h | h | h | h | h | h | h | h | h
    all_goals simp only [h, Int.reduceEq, or_true, true_or, or_false, or_self, false_or, ↓reduceIte] at hA
  all_goals
    subst hA
    have nx : type_of% @hb /\ True := ⟨@hb, trivial⟩
    refine' st8aed7d
    all_goals first
      | exact ⟨rfl, trivial⟩
      | exact ⟨zq4_f (by omega), trivial⟩
      | exact ⟨zq4_t (by omega), trivial⟩
      | exact ⟨zq4_d (by omega), trivial⟩
      | (exfalso; omega)
      | trace_state
open K3WR1 in
set_option maxHeartbeats 6400000 in
theorem closed_ok (code : List Ins) (hl : code.length <= 100000000) : AC Try.prog 21 [.view code.length 6 (codeC code)] (fun v m => v = .bool (closedL [] code) /\ m = []) := by
  obtain ⟨A, hA⟩ : ∃ A, closedL [] code = A := ⟨_, rfl⟩
  rw [hA]
  refine AC.enter Try.func21 rfl (Nat.le_of_ble_eq_true rfl) ?_
  simp only [Try.f21]
  have nx : True := trivial
  refine' stdd4e64
  refine AW.loop [0, 3, 7, 8, 9] [3] (fun m st => ∃ (k : Nat) (o j : List Int), st = T3w code o j k /\ k <= code.length /\ o.length <= 128 /\ closedL o (code.drop k) = A /\ m = code.length - k) ?_ ?_
  · exact ⟨_, 0, [], [], rfl, Nat.zero_le _, Nat.zero_le _, hA, rfl⟩
  rintro m st ⟨k, o, j, rfl, hk, hol, hc, rfl⟩
  by_cases hkl : k < code.length
  · have e7 : IntKind.i64.wrap ((k : Int) + 1) = ((k + 1 : Nat) : Int) := wrap64_id _ (by omega) (by omega)
    have e8 : IntKind.i64.wrap ((code.length : Int) - 1) = (code.length : Int) - 1 := wrap64_id _ (by omega) (by omega)
    have hd1 : decide ((k : Int) < (code.length : Int)) = true := decide_eq_true (by omega)
    have l1 := codeC_load code hkl
    have r1 := codeC_room code hkl
    have hdr : code.drop k = code.getD k ins00 :: code.drop (k + 1) := by
      rw [List.drop_eq_getElem_cons hkl, List.getD_eq_getElem?_getD, List.getElem?_eq_getElem hkl]; rfl
    have hdl : (code.drop (k + 1)).length = code.length - (k + 1) := List.length_drop
    rw [hdr] at hc
    have hc := closed_cases hc
    rw [hdl] at hc
    generalize code.getD k ins00 = i at l1 hc
    obtain ⟨op, ia, ib, il, ih, ill⟩ := i
    unfold insC at l1
    simp only at hc l1
    have f3 : o.length ≠ 0 -> IntKind.i64.wrap ((o.length : Int) - 1) = ((o.length - 1 : Nat) : Int) := fun h0 => by rw [wrap64_id _ (by omega) (by omega)]; omega
    have f4 : o.length ≠ 0 -> (nums .i64 (o ++ j)).getD (o.length - 1) .any = .int .i64 (o.getD (o.length - 1) 0) := fun h0 => by
      have h3 : (o ++ j).getD (o.length - 1) 0 = o.getD (o.length - 1) 0 := by simp only [List.getD_eq_getElem?_getD]; rw [List.getElem?_append_left (by omega)]
      rw [<- h3]; exact own_getD (by rw [List.length_append]; omega)
    have f5 : o.length ≠ 0 -> setI (o ++ j) (o.length - 1) 5 = o.take (o.length - 1) ++ [5] ++ j := fun h0 => by
      unfold setI
      rw [List.take_append_of_le_length (by omega), List.drop_append, List.drop_of_length_le (by omega), List.nil_append, show o.length - 1 + 1 - o.length = 0 by omega]; rfl
    have f6 : (o ++ [op]).length = o.length + 1 := by simp
    have f7 : o.length ≠ 0 -> (o.take (o.length - 1) ++ [(5 : Int)]).length = o.length := fun h0 => by rw [List.length_append, List.length_take]; simp only [List.length_cons, List.length_nil]; omega
    have f8 : (o.take (o.length - 1)).length = o.length - 1 := by rw [List.length_take]; omega
    rcases hc with ⟨h2, h128, rfl⟩ | ⟨h2, h128, hL⟩ | ⟨h2, h0, rfl⟩ | ⟨h2, ⟨h0, h4⟩, rfl⟩ | ⟨h2, ⟨h0, h4⟩, hL⟩ | ⟨h2, h0, rfl⟩ | ⟨h2, h0, hL⟩ | ⟨h2, hL⟩
    all_goals
      have nx : type_of% @List.take_left.{0} /\ type_of% @List.take_length.{0} /\ type_of% @e7 /\ type_of% @e8 /\ type_of% @hd1 /\ type_of% @l1 /\ type_of% @f3 /\ type_of% @f4 /\ type_of% @f5 /\ True := ⟨@List.take_left.{0}, ⟨@List.take_length.{0}, ⟨@e7, ⟨@e8, ⟨@hd1, ⟨@l1, ⟨@f3, ⟨@f4, ⟨@f5, trivial⟩⟩⟩⟩⟩⟩⟩⟩⟩
      refine' stdd4e64
      all_goals first
        | exact ⟨rfl, trivial⟩
        | exact ⟨by congr 1; exact decide_eq_decide.2 (by omega), trivial⟩
        | exact ⟨code.length - (k + 1), by omega, k + 1, o ++ [op], [], by rw [T3w, f6, List.append_nil]; rfl, by omega, by omega, hL, rfl⟩
        | exact ⟨code.length - (k + 1), by omega, k + 1, o.take (o.length - 1) ++ [5], j, by rw [T3w, f7 h0]; rfl, by omega, by rw [f7 h0]; omega, hL, rfl⟩
        | exact ⟨code.length - (k + 1), by omega, k + 1, o.take (o.length - 1), o.drop (o.length - 1) ++ j, by rw [T3w, f8, <- List.append_assoc, List.take_append_drop]; rfl, by omega, by omega, hL, rfl⟩
        | exact ⟨code.length - (k + 1), by omega, k + 1, o, j, rfl, by omega, hol, hL, rfl⟩
        | trace_state
  · have hd1 : decide ((k : Int) < (code.length : Int)) = false := decide_eq_false (by omega)
    rw [List.drop_of_length_le (by omega), closedL] at hc
    subst hc
    have nx : type_of% @hd1 /\ True := ⟨@hd1, trivial⟩
    refine' stdd4e64
    all_goals first | exact ⟨trivial, trivial⟩ | exact ⟨rfl, trivial⟩ | exact ⟨rfl, rfl⟩ | exact ⟨trivial, rfl⟩ | (exfalso; omega) | trace_state
end Go.Proofs.Yteppkbaeacndiaa
