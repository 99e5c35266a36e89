/- Read, of the document. -/
import Derived.Test.YteppkbaeacndiaaDP
import Derived.Test.YteppkbaeacndiaaDB
import Derived.Test.YteppkbaeacndiaaDC
import Derived.Test.YteppkbaeacndiaaGCB
import Derived.Test.YteppkbaeacndiaaXR4
import Derived.Test.YteppkbaeacndiaaGXSt
set_option linter.unusedSimpArgs false
set_option linter.unusedVariables false
namespace Go.Proofs.Yteppkbaeacndiaa
set_option maxRecDepth 20000
open Go Go.Abs Nat
attribute [local irreducible] AW AWL AC FW CW CWr IntKind.wrap
theorem rfields_ok (b : List Int) (hb : bytes b) (hlen : b.length <= 1000000000) (p : Nat) (hp : p <= b.length) (op form : Int) :
    AC Try.prog 19 [.view b.length 1 (nums .u8 b), .int .i64 (p : Int), .agg (insN op), .int .i64 form] (fun v m => v = .tup [.agg (insC (fldR b p ⟨op, 0, 0, 0, 0, []⟩ form).1), .int .i64 (fldR b p ⟨op, 0, 0, 0, 0, []⟩ form).2.1, .int .i64 (fldR b p ⟨op, 0, 0, 0, 0, []⟩ form).2.2] /\ m = []) := by
  by_cases h : form = 4
  · subst h; exact fields4_ok b hb hlen p hp op
  · exact fields0_ok b hb hlen p hp op form h
def T9x (b : List Int) (p : Int) (l : List Ins) (o j : List Int) : St := { n := 105, slots := [(0, .view b.length 1 (nums .u8 b)), (1, .int .i64 p), (7, .ref 7 0 l.length 6), (8, .ref 8 0 o.length 1)], mem := [(7, ⟨true, codeC l⟩), (8, ⟨true, nums .i64 (o ++ j)⟩)] }
theorem MXR5.NM : type_of% @NSX /\ type_of% @St.keepS.eq_1 /\ type_of% @TY /\ type_of% @SLS /\ type_of% @nums_length /\ type_of% @T9x.eq_1 /\ type_of% @byIns /\ type_of% @infoL.eq_1 /\ type_of% @insC.eq_1 :=
  ⟨NSX, St.keepS.eq_1, @TY, @SLS, @nums_length, @T9x.eq_1, @byIns, @infoL.eq_1, @insC.eq_1⟩
open MXR5
theorem K1XR5.kp {P : Program} {c : Code} {Q : Exit -> St -> Prop} {st : St} (h : AW P c Q (st.keepS [0, 1, 4, 5, 6, 7, 8, 9, 10, 11, 12, 14])) : AW P c Q st := AW.keepS _ h
theorem K1XR5.cl {p : Prop} (h : p := by
  first
    | refine AWL.frzG rfl rfl rfl ?_
    | refine AWL.cC (f := 17) cb17 rfl rfl rfl rfl rfl rfl (hop) ?_
    | refine AWL.cC (f := 18) cb18 rfl rfl rfl rfl rfl rfl (hof) ?_
    | refine AWL.cC (f := 19) cb19 rfl rfl rfl rfl rfl rfl (hfd) ?_
  all_goals (apply_rules (newGoals := .nonDependentOnly) only [dep])
  all_goals constructor) : p := h
theorem K1XR5.sd {p : Prop} (h : p := by first | exact sdba8e74) : p := h
open K1XR5 in
set_option maxHeartbeats 12800000 in
theorem rread_raw (b : List Int) (hb : bytes b) (hlen : b.length <= 100000000) (p : Int) :
    AC Try.prog 11 [.view b.length 1 (nums .u8 b), .int .i64 p] (fun v m => ∃ k, v = .tup [.ref k 0 (readS b p).1.length 6, .int .i64 (readS b p).2.1, .int .i64 (readS b p).2.2] /\ m = [(k, codeC (readS b p).1)]) := by
  have hop : True := trivial
  have hof : True := trivial
  have hfd : True := trivial
  have hE : True := trivial
  obtain ⟨A, hA⟩ : ∃ A, readS b p = A := ⟨_, rfl⟩
  rw [hA]
  by_cases hp : p < 0 \/ p > b.length
  · rw [readS_out hp] at hA
    subst hA
    refine AC.enter Try.func11 rfl (Nat.le_of_ble_eq_true rfl) ?_
    simp only [Try.f11]
    have nx : True := trivial
    refine' st1a0eb4
    all_goals first | exact ⟨trivial, trivial⟩ | exact ⟨rfl, trivial⟩ | exact ⟨rfl, rfl⟩ | exact ⟨trivial, rfl⟩ | exact ⟨4, rfl, rfl⟩ | (exfalso; omega) | trace_state
  unfold readS at hA
  rw [if_neg hp] at hA
  refine AC.enter Try.func11 rfl (Nat.le_of_ble_eq_true rfl) ?_
  simp only [Try.f11]
  have hlc := codeC_len
  have nx : True := trivial
  refine' st1a0eb4
  refine AW.loop [0, 1, 7, 8] [7, 8] (fun m st => ∃ (n : Nat) (r : Rd) (l : List Ins), st = T9x b r.pos l r.op r.jk /\ okRd b r /\ r.err = 0 /\ r.op.length <= 128 /\ (l.length : Int) <= r.pos /\ (b.length : Int) + 1 <= n + r.pos /\ readL b n r l = A /\ n = m) ?_ ?_
  · exact ⟨_, b.length + 1, ⟨p, [], [], 0⟩, [], rfl, ⟨by simp only; omega, by simp only; omega⟩, rfl, Nat.zero_le _, by simp only [List.length_nil]; omega, by simp only; omega, hA, rfl⟩
  rintro m st ⟨n, ⟨pos, o, j, er⟩, l, rfl, hr, he, hol, hll, hn, hL, rfl⟩
  obtain rfl : er = 0 := he
  have hp0 : 0 <= pos := hr.p0
  have hp1 : pos <= b.length := hr.p1
  obtain ⟨k, rfl⟩ : ∃ k : Nat, pos = k := ⟨pos.toNat, by omega⟩
  obtain ⟨n', rfl⟩ : ∃ n', n = n' + 1 := ⟨n - 1, by simp only at hn; omega⟩
  simp only at hol hll hn
  have hop := opcode_ok b hb (by omega) k (by omega)
  have hst := step_cases hb hr hL
  clear hL hr hA
  generalize opcS b k = q at hop hst
  obtain ⟨op, p1, e1⟩ := q
  simp only at hop hst
  have hla : ∀ i : Ins, (l ++ [i]).length = l.length + 1 := fun i => by simp
  have hsn : ∀ i : Ins, codeC l ++ [.int .i64 i.op, .int .i64 i.a, .int .i64 i.b, .int .u64 i.lo, .int .u64 i.hi, .view i.l.length 1 (nums .i64 i.l)] = codeC (l ++ [i]) := fun i => codeC_snoc l i
  have hcut : List.take (l.length * 6) (codeC l) = codeC l := List.take_of_length_le (by rw [hlc]; omega)
  rcases hst with ⟨hq, rfl⟩ | ⟨rfl, ⟨hpa, hpb⟩, ho, hst⟩
  case' inr =>
    obtain ⟨k1, rfl⟩ : ∃ k1 : Nat, p1 = k1 := ⟨p1.toNat, by omega⟩
    have hof := rof_look op
    have hfd := rfields_ok b hb (by omega) k1 (by omega) op (ofS op).1.1
    have hst := hst _ rfl
    generalize (ofS op).1 = info at hof hfd hst
    generalize fldR b k1 ⟨op, 0, 0, 0, 0, []⟩ info.1 = f at hfd hst
    obtain ⟨i, p2, e2⟩ := f
    simp only at hfd hst
    unfold insN at hfd
    rcases hst with ⟨hq, rfl⟩ | ⟨rfl, ⟨hpc, hpd⟩, hst⟩
  all_goals
    have nx : True := trivial
    refine' st9e5439
  all_goals try (exact ⟨4, rfl, rfl⟩)
  clear hop hof hfd
  have f1 := hla i
  have f2 := hsn i
  have f3 : o.length ≠ 0 -> IntKind.i64.wrap ((o.length : Int) - 1) = ((o.length - 1 : Nat) : Int) := fun h0 => by rw [wrap64_id _ (by omega) (by omega)]; omega
  have f4 : o.length ≠ 0 -> (nums .i64 (o ++ j)).getD (o.length - 1) .any = .int .i64 (o.getD (o.length - 1) 0) := fun h0 => by
    have h3 : (o ++ j).getD (o.length - 1) 0 = o.getD (o.length - 1) 0 := by simp only [List.getD_eq_getElem?_getD]; rw [List.getElem?_append_left (by omega)]
    rw [<- h3]; exact own_getD (by rw [List.length_append]; omega)
  have f5 : o.length ≠ 0 -> setI (o ++ j) (o.length - 1) 5 = o.take (o.length - 1) ++ [5] ++ j := fun h0 => by
    unfold setI
    rw [List.take_append_of_le_length (by omega), List.drop_append, List.drop_of_length_le (by omega), List.nil_append, show o.length - 1 + 1 - o.length = 0 by omega]; rfl
  have f6 : (o ++ [op]).length = o.length + 1 := by simp
  have f7 : o.length ≠ 0 -> (o.take (o.length - 1) ++ [(5 : Int)]).length = o.length := fun h0 => by rw [List.length_append, List.length_take]; simp only [List.length_cons, List.length_nil]; omega
  have f8 : (o.take (o.length - 1)).length = o.length - 1 := by rw [List.length_take]; omega
  unfold Rnd at hst
  rcases hst with ⟨h2, h128, rfl⟩ | ⟨h2, h128, hL⟩ | ⟨h2, h0, rfl⟩ | ⟨h2, ⟨h0, h4⟩, rfl⟩ | ⟨h2, ⟨h0, h4⟩, hL⟩ | ⟨h2, h0, rfl⟩ | ⟨h2, h0, hL⟩ | ⟨h2, hL⟩
  all_goals
    have nx : type_of% @List.take_left.{0} /\ type_of% @List.take_length.{0} /\ type_of% @f1 /\ type_of% @f2 /\ type_of% @f3 /\ type_of% @f4 /\ type_of% @f5 /\ type_of% @hcut /\ True := ⟨@List.take_left.{0}, ⟨@List.take_length.{0}, ⟨@f1, ⟨@f2, ⟨@f3, ⟨@f4, ⟨@f5, ⟨@hcut, trivial⟩⟩⟩⟩⟩⟩⟩⟩
    refine' st1a0eb4
    all_goals first
      | exact ⟨4, rfl, rfl⟩
      | exact ⟨7, by rw [f1], rfl⟩
      | exact ⟨n', by omega, n', ⟨p2, o ++ [op], [], 0⟩, l ++ [i], by rw [T9x, f1, f6, List.append_nil]; rfl, ⟨by simp only; omega, hpd⟩, rfl, by rw [f6]; omega, by rw [f1]; simp only; omega, by simp only; omega, hL, rfl⟩
      | exact ⟨n', by omega, n', ⟨p2, o.take (o.length - 1) ++ [5], j, 0⟩, l ++ [i], by rw [T9x, f1, f7 h0]; rfl, ⟨by simp only; omega, hpd⟩, rfl, by rw [f7 h0]; omega, by rw [f1]; simp only; omega, by simp only; omega, hL, rfl⟩
      | exact ⟨n', by omega, n', ⟨p2, o.take (o.length - 1), o.drop (o.length - 1) ++ j, 0⟩, l ++ [i], by rw [T9x, f1, f8, <- List.append_assoc, List.take_append_drop]; rfl, ⟨by simp only; omega, hpd⟩, rfl, by rw [f8]; omega, by rw [f1]; simp only; omega, by simp only; omega, hL, rfl⟩
      | exact ⟨n', by omega, n', ⟨p2, o, j, 0⟩, l ++ [i], by rw [T9x, f1]; rfl, ⟨by simp only; omega, hpd⟩, rfl, hol, by rw [f1]; simp only; omega, by simp only; omega, hL, rfl⟩
      | trace_state
theorem rread_ok (b : List Int) (hb : bytes b) (hlen : b.length <= 100000000) (p : Int) :
    AC Try.prog 11 [.view b.length 1 (nums .u8 b), .int .i64 p] (fun v m => v = .tup [.view (readS b p).1.length 6 (codeC (readS b p).1), .int .i64 (readS b p).2.1, .int .i64 (readS b p).2.2] /\ m = []) := by
  refine (rread_raw b hb hlen p).out fun v m h => ?_
  obtain ⟨k, rfl, rfl⟩ := h
  refine ⟨_, _, ⟨rfl, rfl⟩, fun S w w' u ho => ?_⟩
  have h2 := ho.frz
  have e : frz1 k (codeC (readS b p).1) (.tup [.ref k 0 (readS b p).1.length 6, .int .i64 (readS b p).2.1, .int .i64 (readS b p).2.2]) = .tup [.view (readS b p).1.length 6 (codeC (readS b p).1), .int .i64 (readS b p).2.1, .int .i64 (readS b p).2.2] := by
    simp only [frz1, V.frz, V.wipe, List.map_cons, List.map_nil, beq_self_eq_true, cond_true, List.drop_zero, List.take_of_length_le (Nat.le_of_eq (codeC_len (readS b p).1))]
  rw [e] at h2; exact h2
end Go.Proofs.Yteppkbaeacndiaa
