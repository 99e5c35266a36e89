/- fields, of the document: tables. -/
import Derived.Test.YteppkbaeacndiaaDP
import Derived.Test.YteppkbaeacndiaaDB
import Derived.Test.YteppkbaeacndiaaDC
import Derived.Test.YteppkbaeacndiaaGCB
import Derived.Test.YteppkbaeacndiaaXR3
import Derived.Test.YteppkbaeacndiaaGEFld2
set_option linter.unusedSimpArgs false
set_option linter.unusedVariables false
namespace Go.Proofs.Yteppkbaeacndiaa
set_option maxRecDepth 20000
open Go Go.Abs Nat
attribute [local irreducible] AW AWL AC FW CW CWr IntKind.wrap
def T11x (b : List Int) (op : Int) (n : Nat) (to : Int) (l : List Int) (i : Nat) : St := { n := 205, slots := [(0, .view b.length 1 (nums .u8 b)), (6, .ptr 6 0), (8, .ptr 8 0), (14, .int .i64 (n : Int)), (15, .int .i64 to), (16, .int .i64 (i : Int))], mem := [(6, ⟨false, [.int .i64 op, .int .i64 0, .int .i64 0, .int .u64 0, .int .u64 0, .ref 7005 0 l.length 1]⟩), (7005, ⟨true, nums .i64 l⟩), (8, ⟨false, [.int .i64 0, .int .i64 0, .int .i64 0, .int .u64 0, .int .u64 0, .ref 9005 0 0 1]⟩), (9005, ⟨true, []⟩)] }
theorem MXR4.NM : type_of% @NSX /\ type_of% @St.keepS.eq_1 /\ type_of% @TY /\ type_of% @SLS /\ type_of% @nums_length /\ type_of% @insC.eq_1 /\ type_of% @T11x.eq_1 :=
  ⟨NSX, St.keepS.eq_1, @TY, @SLS, @nums_length, @insC.eq_1, @T11x.eq_1⟩
open MXR4
theorem K1XR4.kp {P : Program} {c : Code} {Q : Exit -> St -> Prop} {st : St} (h : AW P c Q (st.keepS [0, 1, 2, 3, 6, 8, 9, 10, 11, 12, 13, 14, 15, 16, 17, 18, 19, 20, 21, 22, 23, 24, 25, 26, 27, 28, 29])) : AW P c Q st := AW.keepS _ h
theorem K1XR4.cl {p : Prop} (h : p := by
  first
    | refine AWL.frzG rfl rfl rfl ?_
    | refine AWL.cC (f := 31) cb31 rfl rfl rfl rfl rfl rfl (hn1) ?_
    | refine AWL.cC (f := 38) cb38 rfl rfl rfl rfl rfl rfl (hdo) ?_
  all_goals (apply_rules (newGoals := .nonDependentOnly) only [dep])
  all_goals constructor) : p := h
theorem K1XR4.sd {p : Prop} (h : p := by first | exact sd1eb496) : p := h
open K1XR4 in
set_option maxHeartbeats 12800000 in
theorem fields4_ok (b : List Int) (hb : bytes b) (hlen : b.length <= 1000000000) (p : Nat) (hp : p <= b.length) (op : Int) :
    AC Try.prog 19 [.view b.length 1 (nums .u8 b), .int .i64 (p : Int), .agg (insN op), .int .i64 4] (fun v m => v = .tup [.agg (insC (fldR b p ⟨op, 0, 0, 0, 0, []⟩ 4).1), .int .i64 (fldR b p ⟨op, 0, 0, 0, 0, []⟩ 4).2.1, .int .i64 (fldR b p ⟨op, 0, 0, 0, 0, []⟩ 4).2.2] /\ m = []) := by
  have hdo : True := trivial
  obtain ⟨A, hA⟩ : ∃ A, fldR b p ⟨op, 0, 0, 0, 0, []⟩ 4 = A := ⟨_, rfl⟩
  rw [hA]
  unfold fldR at hA
  rw [if_neg (by decide), if_neg (by decide), if_pos rfl] at hA
  have hn1 := u32_ok b hb hlen p ⟨by omega, by omega⟩
  have hno := u32S_ok hb (p := (p : Int)) ⟨by omega, by omega⟩
  generalize u32S b p = z at hA hn1 hno
  obtain ⟨n, to⟩ := z
  simp only at hA hno
  obtain ⟨N, rfl⟩ : ∃ N : Nat, n = N := ⟨n.toNat, by omega⟩
  rw [Int.toNat_natCast] at hA
  unfold insN
  refine AC.enter Try.func19 rfl (Nat.le_of_ble_eq_true rfl) ?_
  simp only [Try.f19]
  have nx : True := trivial
  refine' st1a0eb4
  refine AW.loop [0, 6, 8, 14, 15, 16] [6, 7005, 8, 9005] (fun m st => ∃ (i : Nat) (t : Int) (l : List Int), st = T11x b op N t l i /\ (t = -1 \/ 0 <= t) /\ t <= b.length /\ tbR b N to [] = tbR b (N - i) t l /\ l.length <= (if t < 0 then (b.length : Int) + 1 else t) /\ i <= N /\ m = N - i) ?_ ?_
  · exact ⟨_, 0, to, [], rfl, by omega, by omega, rfl, by simp only [List.length_nil]; split <;> omega, Nat.zero_le _, rfl⟩
  rintro m st ⟨i, t, l, rfl, ht0, htb, ht, hll, hiN, rfl⟩
  have hl2 : l.length <= 1000000001 := by split at hll <;> omega
  by_cases hgo : i < N /\ 0 <= t
  · obtain ⟨hi, ht1⟩ := hgo
    have e5 : IntKind.i64.wrap ((i : Int) + 1) = ((i + 1 : Nat) : Int) := wrap64_id _ (by omega) (by omega)
    have hn1 := u32_ok b hb hlen t ⟨ht1, htb⟩
    have hno := u32S_ok hb (p := t) ⟨ht1, htb⟩
    rw [show N - i = (N - (i + 1)) + 1 by omega, tbR, if_pos ht1] at ht
    rw [if_neg (by omega)] at hll
    generalize u32S b t = z at hn1 hno ht
    obtain ⟨x, t2⟩ := z
    simp only at hno ht
    have hla : (l ++ [x]).length = l.length + 1 := by simp
    have hgz : decide ((i : Int) < (N : Int)) = true := decide_eq_true (by omega)
    have nx : type_of% @e5 /\ type_of% @List.take_length.{0} /\ type_of% @hgz /\ True := ⟨@e5, ⟨@List.take_length.{0}, ⟨@hgz, trivial⟩⟩⟩
    refine' st1a0eb4
    all_goals first
      | exact ⟨N - (i + 1), by omega, i + 1, t2, l ++ [x], by rw [T11x, hla]; rfl, by omega, by omega, ht, by rw [hla]; split <;> omega, by omega, rfl⟩
      | trace_state
  · have ht2 : tbR b N to [] = (l, t) := by
      rw [ht]
      cases hk : N - i with
      | zero => rfl
      | succ k => rw [tbR, if_neg (fun h => hgo ⟨by omega, h⟩)]
    rw [ht2] at hA
    simp only at hA
    unfold numR2 at hA
    by_cases ht1 : 0 <= t
    · rw [if_pos (show t >= 0 from ht1)] at hA
      have hn1 := u32_ok b hb hlen t ⟨ht1, htb⟩
      generalize u32S b t = z at hn1 hA
      obtain ⟨x, t2⟩ := z
      simp only at hA
      have hdo := done_ok ⟨op, x, 0, 0, 0, l⟩ t2
      generalize doneS ⟨op, x, 0, 0, 0, l⟩ t2 = y at hA hdo
      obtain ⟨y1, y2, y3⟩ := y
      have hgz : decide ((i : Int) < (N : Int)) = false := decide_eq_false (by omega)
      have nx : type_of% @List.take_length.{0} /\ type_of% @hgz /\ True := ⟨@List.take_length.{0}, ⟨@hgz, trivial⟩⟩
      refine' st1a0eb4
      all_goals first | exact ⟨trivial, trivial⟩ | exact ⟨rfl, trivial⟩ | exact ⟨rfl, rfl⟩ | exact ⟨trivial, rfl⟩ | (rw [<- hA]; first | exact ⟨rfl, trivial⟩ | exact rfl) | (exfalso; omega) | trace_state
    · rw [if_neg (show ¬ t >= 0 by omega)] at hA
      simp only at hA
      have hdo := done_ok ⟨op, 0, 0, 0, 0, l⟩ t
      generalize doneS ⟨op, 0, 0, 0, 0, l⟩ t = y at hA hdo
      obtain ⟨y1, y2, y3⟩ := y
      have nx : type_of% @List.take_length.{0} /\ True := ⟨@List.take_length.{0}, trivial⟩
      refine' st1a0eb4
      all_goals first | exact ⟨trivial, trivial⟩ | exact ⟨rfl, trivial⟩ | exact ⟨rfl, rfl⟩ | exact ⟨trivial, rfl⟩ | (rw [<- hA]; first | exact ⟨rfl, trivial⟩ | exact rfl) | (exfalso; omega) | trace_state
end Go.Proofs.Yteppkbaeacndiaa
