/- u and one, of the document. -/
import Derived.Test.YteppkbaeacndiaaDP
import Derived.Test.YteppkbaeacndiaaDB
import Derived.Test.YteppkbaeacndiaaDC
import Derived.Test.YteppkbaeacndiaaGCB
import Derived.Test.YteppkbaeacndiaaGArgw
import Derived.Test.YteppkbaeacndiaaGRSign
import Derived.Test.YteppkbaeacndiaaGJoin
import Derived.Test.YteppkbaeacndiaaXR5
import Derived.Test.YteppkbaeacndiaaGWP
import Derived.Test.YteppkbaeacndiaaGXSt
set_option linter.unusedSimpArgs false
set_option linter.unusedVariables false
namespace Go.Proofs.Yteppkbaeacndiaa
set_option maxRecDepth 20000
open Go Go.Abs Nat
attribute [local irreducible] AW AWL AC FW CW CWr IntKind.wrap
def T6o (i : Ins) (o : List Int) : St := { n := 165, slots := [(1, .ptr 1 0), (3, .ref 3 0 o.length 1)], mem := [(1, ⟨false, [.int .i64 i.op, .int .i64 i.a, .int .i64 i.b, .int .u64 i.lo, .int .u64 i.hi, .view i.l.length 1 (nums .i64 i.l)]⟩), (3, ⟨true, nums .u8 o⟩)] }
def S18o (i : Ins) (o : List Int) (k : Nat) : St := { n := 165, slots := [(1, .ptr 1 0), (3, .ref 3 0 o.length 1), (6, .int .i64 (k : Int))], mem := [(1, ⟨false, [.int .i64 i.op, .int .i64 i.a, .int .i64 i.b, .int .u64 i.lo, .int .u64 i.hi, .view i.l.length 1 (nums .i64 i.l)]⟩), (3, ⟨true, nums .u8 o⟩)] }
def S38o (v : List Int) (o : List Int) (k : Nat) : St := { n := 165, slots := [(3, .ref 3 0 o.length 1), (7, .ptr 7 0), (8, .int .i64 (k : Int))], mem := [(3, ⟨true, nums .u8 o⟩), (7, ⟨true, nums .u8 v⟩)] }
theorem rpu_1 (x : Int) (h : 0 <= x /\ x < 18446744073709551616) : AC Try.prog 61 [.view 1 1 (nums .u64 [x])] (fun r m => r = .view (uB x).length 1 (nums .u8 (uB x)) /\ m = []) := by
  have := rpu_look 1 [x] rfl (fun y hy => by rw [List.mem_singleton.1 hy]; exact ⟨h.1, by simp only [Int.reducePow]; omega⟩) (by simp)
  have e : putUs [x] = uB x := by unfold uB; rw [Int.emod_eq_of_lt h.1 h.2]; simp [putUs]
  rw [e] at this
  exact this
theorem rps_1 (x : Int) (h : -9223372036854775808 <= x /\ x <= 9223372036854775807) : AC Try.prog 47 [.view 1 1 (nums .i64 [x])] (fun r m => r = .view (putS x).length 1 (nums .u8 (putS x)) /\ m = []) := by
  have := rps_look 1 [x] rfl (fun y hy => by rw [List.mem_singleton.1 hy]; simp only [Int.reducePow]; omega) (by simp)
  have e : putSs [x] = putS x := by simp [putSs]
  rw [e] at this
  exact this
theorem MRW1.NM : type_of% @NSX /\ type_of% @St.keepS.eq_1 /\ type_of% @TY /\ type_of% @SLS /\ type_of% @nums_length /\ type_of% @infoL.eq_1 /\ type_of% @T6o.eq_1 /\ type_of% @S18o.eq_1 /\ type_of% @S38o.eq_1 :=
  ⟨NSX, St.keepS.eq_1, @TY, @SLS, @nums_length, @infoL.eq_1, @T6o.eq_1, @S18o.eq_1, @S38o.eq_1⟩
open MRW1
theorem K1RW1.kp {P : Program} {c : Code} {Q : Exit -> St -> Prop} {st : St} (h : AW P c Q (st.keepS [0, 2])) : AW P c Q st := AW.keepS _ h
theorem K1RW1.cl {p : Prop} (h : p := by
  first
    | refine AWL.frzG rfl rfl rfl ?_
    | refine AWL.cC (f := 61) cb61 rfl rfl rfl rfl rfl rfl (hpu) ?_
  all_goals (apply_rules (newGoals := .nonDependentOnly) only [dep])
  all_goals constructor) : p := h
theorem K1RW1.sd {p : Prop} (h : p := by first | exact sd1eb496) : p := h
theorem K2RW1.kp {P : Program} {c : Code} {Q : Exit -> St -> Prop} {st : St} (h : AW P c Q (st.keepS [0, 1, 2, 3, 4, 6, 7, 8, 34])) : AW P c Q st := AW.keepS _ h
theorem K2RW1.cl {p : Prop} (h : p := by
  first
    | refine AWL.frzG rfl rfl rfl ?_
    | refine AWL.cC (f := 47) cb47 rfl rfl rfl rfl rfl rfl (hps) ?_
    | refine AWL.cC (f := 46) cb46 rfl rfl rfl rfl rfl rfl (huo) ?_
    | refine AWL.cC (f := 46) cb46 rfl rfl rfl rfl rfl rfl (hua) ?_
    | refine AWL.cC (f := 46) cb46 rfl rfl rfl rfl rfl rfl (hub) ?_
    | refine AWL.cC (f := 46) cb46 rfl rfl rfl rfl rfl rfl (hul) ?_
    | refine AWL.cC (f := 18) cb18 rfl rfl rfl rfl rfl rfl (hof) ?_
    | refine AWL.cC (f := 48) cb48 rfl rfl rfl rfl rfl rfl (hsg) ?_
    | refine AWL.cC (f := 49) cb49 rfl rfl rfl rfl rfl rfl (hjn) ?_
  all_goals (apply_rules (newGoals := .nonDependentOnly) only [dep])
  all_goals constructor) : p := h
theorem K2RW1.sd {p : Prop} (h : p := by first | exact sd1eb496) : p := h
open K1RW1 in
set_option maxHeartbeats 3200000 in
theorem ruQ_ok (n : Int) : AC Try.prog 46 [.int .i64 n] (fun v m => v = .view (uR n).length 1 (nums .u8 (uR n)) /\ m = []) := by
  obtain ⟨A, hA⟩ : ∃ A, uR n = A := ⟨_, rfl⟩
  rw [hA]
  unfold uR at hA
  refine AC.enter Try.func46 rfl (Nat.le_of_ble_eq_true rfl) ?_
  simp only [Try.f46]
  have hw : n < 0 \/ 4294967295 < n \/ (0 <= n /\ n <= 4294967295) := by omega
  have e0 : IntKind.u64.wrap 0 = 0 := wrap_in rfl (by omega) (by show (0 : Int) < (18446744073709551616 : Int); omega)
  have hcs : ∃ q : Int, (0 <= q /\ q < 18446744073709551616) /\ uB q = A /\ IntKind.u64.wrap q = q /\ ((n < 0 /\ q = 0) \/ ((0 <= n /\ 4294967295 < n) /\ q = 0) \/ ((0 <= n /\ n <= 4294967295) /\ q = n)) := by
    rcases hw with h | h | h
    · rw [if_pos (.inl h)] at hA
      exact ⟨0, by omega, hA, e0, .inl ⟨h, rfl⟩⟩
    · rw [if_pos (.inr h)] at hA
      exact ⟨0, by omega, hA, e0, .inr (.inl ⟨by omega, rfl⟩)⟩
    · rw [if_neg (by omega)] at hA
      exact ⟨n, by omega, hA, wrap_in rfl (by omega) (by show _ < (18446744073709551616 : Int); omega), .inr (.inr ⟨h, rfl⟩)⟩
  clear hA hw
  obtain ⟨q, hq, hB, hwq, hcs⟩ := hcs
  have hpu := rpu_1 q hq
  rw [hB] at hpu
  rcases hcs with ⟨h, rfl⟩ | ⟨h, rfl⟩ | ⟨h, rfl⟩
  all_goals
    have nx : type_of% @hwq /\ True := ⟨@hwq, trivial⟩
    refine' st1a0eb4
    all_goals first
      | exact ⟨rfl, rfl⟩
      | exact ⟨rfl, trivial⟩
      | exact ⟨trivial, trivial⟩
      | trace_state
theorem uRs_snoc (o : List Int) (L : List Int) {k : Nat} (h : k < L.length) : (o ++ uR (L.getD k 0)) ++ (L.drop (k + 1)).flatMap uR = o ++ (L.drop k).flatMap uR := by
  have hdr : L.drop k = L.getD k 0 :: L.drop (k + 1) := by
    rw [List.drop_eq_getElem_cons h, List.getD_eq_getElem?_getD, List.getElem?_eq_getElem h]; rfl
  rw [hdr, List.flatMap_cons, List.append_assoc]
theorem dr_snoc (o : List Int) (L : List Int) {k : Nat} (h : k < L.length) : (o ++ [L.getD k 0]) ++ L.drop (k + 1) = o ++ L.drop k := by
  have hdr : L.drop k = L.getD k 0 :: L.drop (k + 1) := by
    rw [List.drop_eq_getElem_cons h, List.getD_eq_getElem?_getD, List.getElem?_eq_getElem h]; rfl
  rw [hdr, List.append_assoc]; rfl
open K2RW1 in
set_option maxHeartbeats 12800000 in
theorem one_raw (i : Ins) (hi : okIns i) :
    AC Try.prog 23 [.agg (insC i)] (fun v m => v = .ref 2 0 (oneR i).length 1 /\ m = [(2, nums .u8 (oneR i))]) := by
  obtain ⟨A, hA⟩ : ∃ A, oneR i = A := ⟨_, rfl⟩
  rw [hA]
  obtain ⟨z, hz⟩ : ∃ z, ofS i.op = z := ⟨_, rfl⟩
  have hof := rof_look i.op
  have huo := ruQ_ok (i.op - 64768)
  have hpu : True := trivial
  have hps : True := trivial
  have hua : True := trivial
  have hub : True := trivial
  have hul : True := trivial
  have hsg : True := trivial
  have hjn : True := trivial
  unfold oneR at hA
  have hop1 := hi.op
  have hol := hR_le i.op
  have e1 : IntKind.u8.wrap i.op = i.op % 256 := wrap_unsigned (k := .u8) rfl _
  rw [hz] at hof hA
  obtain ⟨z1, z2⟩ := z
  simp only at hof hA
  unfold insC
  refine AC.enter Try.func23 rfl (Nat.le_of_ble_eq_true rfl) ?_
  simp only [Try.f23]
  clear hz
  have nx : True := trivial
  refine' st6b56c8
  rename_i Qm hQm hPm
  have hrest : ∀ s : St, s.keep [1, 3] [1, 3] = T6o i (hR i.op) -> Qm .normal s := by
    clear huo
    intro s hs
    refine QEq.mp hQm ?_
    simp only [thenQ, Go.Abs.blockQ, ↓reduceIte, Nat.reduceEqDiff]
    refine AW.keep [1, 3] [1, 3] ?_
    rw [hs]
    clear hs s
    unfold oneQ at hA
    generalize hR i.op = o at hol hA
    have hlo : List.take o.length o = o := List.take_length
    have hl2 : List.take (o.length + (uR i.a).length + (uR i.b).length) (o ++ uR i.a ++ uR i.b) = o ++ uR i.a ++ uR i.b := by rw [<- List.length_append, <- List.length_append, List.take_length]
    have hua := ruQ_ok i.a
    have hub := ruQ_ok i.b
    have hul := ruQ_ok (i.l.length : Int)
    have hal := uR_le i.a
    have hbl := uR_le i.b
    have hll := uR_le (i.l.length : Int)
    have hn := hi.n
    have h0 := hi.lo
    have e7 : IntKind.u8.wrap (i.a + 128) = (i.a + 128) % 256 := wrap_unsigned (k := .u8) rfl _
    have e8 : IntKind.u8.wrap i.lo = i.lo % 256 := wrap_unsigned (k := .u8) rfl _
    have e9 : IntKind.u8.wrap i.a = i.a % 256 := wrap_unsigned (k := .u8) rfl _
    have e10 : IntKind.i64.wrap i.lo = i64 i.lo := rfl
    have hza := hi.a
    have hcs : (z1.1 = 4 \/ (z1.1 = 11 \/ z1.1 = 12)) \/ ((z1.1 = 2 /\ i.a < 0) \/ (z1.1 = 2 /\ 0 <= i.a) \/ (z1.1 = 3 \/ z1.1 = 5) \/ (z1.1 = 6 \/ z1.1 = 7) \/ z1.1 = 8 \/ z1.1 = 9 \/ z1.1 = 10 \/ z1.1 = 13 \/ z1.1 = 14 \/ (z1.1 ≠ 4 /\ z1.1 ≠ 11 /\ z1.1 ≠ 12 /\ z1.1 ≠ 2 /\ z1.1 ≠ 3 /\ z1.1 ≠ 5 /\ z1.1 ≠ 6 /\ z1.1 ≠ 7 /\ z1.1 ≠ 8 /\ z1.1 ≠ 9 /\ z1.1 ≠ 10 /\ z1.1 ≠ 13 /\ z1.1 ≠ 14)) := by omega
    rcases hcs with (h | h) | h
    · rw [if_neg (by omega), if_neg (by omega), if_pos h] at hA
      generalize hO : o ++ uR (i.l.length : Int) ++ i.l.flatMap uR = O at hA
      have nx : type_of% @h /\ True := ⟨@h, trivial⟩
      refine' stf0f69d
      refine AW.loop [1, 3, 6] [1, 3] (fun m st => ∃ (k : Nat) (p : List Int), st = S18o i p k /\ k <= i.l.length /\ p.length <= 100 + 10 * k /\ p ++ (i.l.drop k).flatMap uR = O /\ m = i.l.length - k) ?_ ?_
      · exact ⟨_, 0, o ++ uR (i.l.length : Int), by rw [S18o, List.length_append]; rfl, Nat.zero_le _, by rw [List.length_append]; omega, hO, rfl⟩
      rintro m st ⟨k, p, rfl, hk, hpk, hpO, rfl⟩
      clear hlo
      have hlo : List.take p.length p = p := List.take_length
      by_cases hkl : k < i.l.length
      · have ek : IntKind.i64.wrap ((k : Int) + 1) = ((k + 1 : Nat) : Int) := wrap64_id _ (by omega) (by omega)
        have hul := ruQ_ok (i.l.getD k 0)
        have hull := uR_le (i.l.getD k 0)
        have hpO := (uRs_snoc p i.l hkl).trans hpO
        have nx : type_of% @ek /\ type_of% @hlo /\ True := ⟨@ek, ⟨@hlo, trivial⟩⟩
        refine' stf0f69d
        all_goals first
          | exact ⟨i.l.length - (k + 1), by omega, k + 1, p ++ uR (i.l.getD k 0), by rw [S18o, List.length_append]; rfl, by omega, by rw [List.length_append]; omega, hpO, rfl⟩
          | trace_state
      · rw [List.drop_of_length_le (by omega)] at hpO
        simp only [List.flatMap_nil, List.append_nil] at hpO
        subst hpO
        subst hA
        have nx : type_of% @hlo /\ True := ⟨@hlo, trivial⟩
        refine' stf0f69d
        all_goals first
          | exact ⟨by rw [List.length_append], rfl⟩
          | exact ⟨by rw [List.length_append], trivial⟩
          | trace_state
    · rw [if_neg (by omega), if_neg (by omega), if_neg (by omega), if_neg (by omega), if_neg (by omega), if_neg (by omega), if_neg (by omega), if_pos h] at hA
      have hjn := rjoin_ok i.lo i.hi hi.lo.1 (by have := hi.lo.2; simp only [Int.reducePow]; omega) hi.hi.1 (by have := hi.hi.2; simp only [Int.reducePow]; omega)
      have hvl := join_le i.lo i.hi
      generalize join i.lo i.hi = v at hjn hA hvl
      have hdv : nums .u8 v ++ List.drop v.length [V.int IntKind.u8 0, V.int IntKind.u8 0, V.int IntKind.u8 0, V.int IntKind.u8 0, V.int IntKind.u8 0, V.int IntKind.u8 0, V.int IntKind.u8 0, V.int IntKind.u8 0, V.int IntKind.u8 0, V.int IntKind.u8 0, V.int IntKind.u8 0, V.int IntKind.u8 0, V.int IntKind.u8 0, V.int IntKind.u8 0, V.int IntKind.u8 0, V.int IntKind.u8 0] = nums .u8 v := by rw [List.drop_of_length_le (by simp only [List.length_cons, List.length_nil]; omega), List.append_nil]
      have nx : type_of% @hdv /\ True := ⟨@hdv, trivial⟩
      refine' stf0f69d
      all_goals
        refine AW.loop [3, 7, 8] [3, 7] (fun m st => ∃ (k : Nat) (p : List Int), st = S38o v p k /\ k <= 16 /\ p.length = o.length + k /\ p ++ v.drop k = A /\ m = 16 - k) ?_ ?_
        · exact ⟨_, 0, o, rfl, Nat.zero_le _, rfl, hA, rfl⟩
        rintro m st ⟨k, p, rfl, hk, hpk, hpO, rfl⟩
        clear hlo
        have hlo : List.take p.length p = p := List.take_length
        by_cases hkl : k < 16
        · have ek : IntKind.i64.wrap ((k : Int) + 1) = ((k + 1 : Nat) : Int) := wrap64_id _ (by omega) (by omega)
          have hpO := (dr_snoc p v (by omega)).trans hpO
          have hld : (nums .u8 v).getD k .any = .int .u8 (v.getD k 0) := own_getD (by omega)
          have nx : type_of% @ek /\ type_of% @hlo /\ type_of% @hld /\ True := ⟨@ek, ⟨@hlo, ⟨@hld, trivial⟩⟩⟩
          refine' stf0f69d
          all_goals first
            | exact ⟨16 - (k + 1), by omega, k + 1, p ++ [v.getD k 0], by rw [S38o, List.length_append]; rfl, by omega, by rw [List.length_append]; simp only [List.length_cons, List.length_nil]; omega, hpO, rfl⟩
            | trace_state
        · rw [List.drop_of_length_le (by omega), List.append_nil] at hpO
          subst hpO
          have nx : type_of% @hlo /\ True := ⟨@hlo, trivial⟩
          refine' stf0f69d
          all_goals first
            | exact ⟨rfl, rfl⟩
            | trace_state
    · have hps2 := fun (h2 : z1.1 = 2) => rps_1 i.a hza
      have hps9 := rps_1 (sgn 32 i.lo) (by have := i32_b i.lo; rw [sgn_i32]; omega)
      have hps10 := rps_1 (i64 i.lo) (i64_b i.lo)
      have hsg := sign_ok i.lo h0.1 (by simp only [Int.reducePow]; omega) 32 (by decide)
      have hp2 := putS_le hza
      have hp9 := putS_le (n := sgn 32 i.lo) (by have := i32_b i.lo; rw [sgn_i32]; omega)
      have hp10 := putS_le (i64_b i.lo)
      rcases h with ⟨h, c⟩ | ⟨h, c⟩ | h | h | h | h | h | h | h | h
      case' inr.inl =>
        rw [if_pos h, if_pos c] at hA
        have e6 : IntKind.i64.wrap (i.a + 128) = i.a + 128 := wrap64_id _ (by omega) (by omega)
      case' inr.inr.inl =>
        rw [if_pos h, if_neg (by omega)] at hA
        have hps := hps2 h
        have e6 : True := trivial
      case' inr.inr.inr.inl =>
        rw [if_neg (by omega), if_pos h] at hA
        have e6 : True := trivial
      case' inr.inr.inr.inr.inl =>
        rw [if_neg (by omega), if_neg (by omega), if_neg (by omega), if_pos h] at hA
        have e6 : True := trivial
      case' inr.inr.inr.inr.inr.inl =>
        rw [if_neg (by omega), if_neg (by omega), if_neg (by omega), if_neg (by omega), if_pos h] at hA
        have e6 : True := trivial
      case' inr.inr.inr.inr.inr.inr.inl =>
        rw [if_neg (by omega), if_neg (by omega), if_neg (by omega), if_neg (by omega), if_neg (by omega), if_pos h] at hA
        have hps := hps9
        have e6 : True := trivial
      case' inr.inr.inr.inr.inr.inr.inr.inl =>
        rw [if_neg (by omega), if_neg (by omega), if_neg (by omega), if_neg (by omega), if_neg (by omega), if_neg (by omega), if_pos h] at hA
        have hps := hps10
        have e6 : True := trivial
      case' inr.inr.inr.inr.inr.inr.inr.inr.inl =>
        rw [if_neg (by omega), if_neg (by omega), if_neg (by omega), if_neg (by omega), if_neg (by omega), if_neg (by omega), if_neg (by omega), if_neg (by omega), if_pos h] at hA
        have e6 : True := trivial
      case' inr.inr.inr.inr.inr.inr.inr.inr.inr.inl =>
        rw [if_neg (by omega), if_neg (by omega), if_neg (by omega), if_neg (by omega), if_neg (by omega), if_neg (by omega), if_neg (by omega), if_neg (by omega), if_neg (by omega), if_pos h] at hA
        have e6 : True := trivial
      case' inr.inr.inr.inr.inr.inr.inr.inr.inr.inr =>
        rw [if_neg (by omega), if_neg (by omega), if_neg (by omega), if_neg (by omega), if_neg (by omega), if_neg (by omega), if_neg (by omega), if_neg (by omega), if_neg (by omega), if_neg (by omega)] at hA
        have e6 : True := trivial
      all_goals
        subst hA
        clear hps2
        have nx : type_of% @e6 /\ type_of% @e7 /\ type_of% @e8 /\ type_of% @e9 /\ type_of% @e10 /\ type_of% @hlo /\ type_of% @hl2 /\ True := ⟨@e6, ⟨@e7, ⟨@e8, ⟨@e9, ⟨@e10, ⟨@hlo, ⟨@hl2, trivial⟩⟩⟩⟩⟩⟩⟩
        refine' stf0f69d
        all_goals first
          | exact ⟨rfl, rfl⟩
          | exact ⟨rfl, trivial⟩
          | (refine ⟨?_, trivial⟩; simp only [List.length_append, List.length_cons, List.length_nil, Nat.zero_add]; done)
          | (refine ⟨?_, rfl⟩; simp only [List.length_append, List.length_cons, List.length_nil, Nat.zero_add]; done)
          | trace_state
  clear hQm
  unfold hR at hrest
  by_cases hbig : i.op >= 64768
  · have e5 : IntKind.i64.wrap (i.op - 64768) = i.op - 64768 := wrap64_id _ (by omega) (by omega)
    have hou := uR_le (i.op - 64768)
    rw [if_pos hbig] at hrest
    have nx : type_of% @e5 /\ True := ⟨@e5, trivial⟩
    refine' stf0f69d
    all_goals first
      | exact hrest _ rfl
      | exact hrest _ (by rw [T6o, show (253 :: uR (i.op - 64768)).length = 1 + (uR (i.op - 64768)).length by simp only [List.length_cons]; omega]; rfl)
      | trace_state
  · rw [if_neg hbig] at hrest
    have nx : type_of% @e1 /\ True := ⟨@e1, trivial⟩
    refine' stf0f69d
    all_goals first
      | exact hrest _ rfl
      | trace_state
theorem one_ok (i : Ins) (hi : okIns i) :
    AC Try.prog 23 [.agg (insC i)] (fun v m => v = .view (oneR i).length 1 (nums .u8 (oneR i)) /\ m = []) :=
  (one_raw i hi).look (by rw [nums_length, Nat.mul_one])
end Go.Proofs.Yteppkbaeacndiaa
namespace Go.Proofs.Yteppkbaeacndiaa
set_option maxRecDepth 20000
open Go Go.Abs Nat
attribute [local irreducible] AW AWL AC FW CW CWr IntKind.wrap
def T3o (code : List Ins) (o : List Int) (k : Nat) : St := { n := 43, slots := [(0, .view code.length 6 (codeC code)), (4, .ref 4 0 o.length 1), (5, .int .i64 (k : Int))], mem := [(4, ⟨true, nums .u8 o⟩)] }
theorem MRW2.NM : type_of% @NSX /\ type_of% @St.keepS.eq_1 /\ type_of% @TY /\ type_of% @SLS /\ type_of% @nums_length /\ type_of% @T3o.eq_1 :=
  ⟨NSX, St.keepS.eq_1, @TY, @SLS, @nums_length, @T3o.eq_1⟩
open MRW2
theorem K1RW2.kp {P : Program} {c : Code} {Q : Exit -> St -> Prop} {st : St} (h : AW P c Q (st.keepS [0, 2, 3, 4, 5, 6, 7, 8])) : AW P c Q st := AW.keepS _ h
theorem K1RW2.cl {p : Prop} (h : p := by
  first
    | refine AWL.frzG rfl rfl rfl ?_
    | refine AWL.cC (f := 23) cb23 rfl rfl rfl rfl rfl rfl (hon) ?_
    | refine AWL.cC (f := 11) cb11 rfl rfl rfl rfl rfl rfl (hrd) ?_
    | refine AWL.cC (f := 12) cb12 rfl rfl rfl rfl rfl rfl (hsm) ?_
  all_goals (apply_rules (newGoals := .nonDependentOnly) only [dep])
  all_goals constructor) : p := h
theorem K1RW2.sd {p : Prop} (h : p := by first | exact sd1eb496) : p := h
open K1RW2 in
set_option maxHeartbeats 6400000 in
theorem rwrite_raw (code : List Ins) (hi : ∀ i ∈ code, okIns i) (hz : szC code <= 10000000) :
    AC Try.prog 14 [.view code.length 6 (codeC code)] (fun v m => ((rwrS code).1 = [] /\ ∃ k, v = .tup [.ref k 0 0 1, .int .i64 (rwrS code).2] /\ m = [(k, [])]) \/ (v = .tup [.view (rwrS code).1.length 1 (nums .u8 (rwrS code).1), .int .i64 (rwrS code).2] /\ m = [])) := by
  obtain ⟨A, hA⟩ : ∃ A, rwrS code = A := ⟨_, rfl⟩
  rw [hA]
  have hon : True := trivial
  have hrd : True := trivial
  have hsm : True := trivial
  unfold rwrS at hA
  have hln := szC_len code
  have hbl := bytQ_le hi
  refine AC.enter Try.func14 rfl (Nat.le_of_ble_eq_true rfl) ?_
  simp only [Try.f14]
  have nx : True := trivial
  refine' st1a0eb4
  refine AW.loop [0, 4, 5] [4] (fun m st => ∃ (k : Nat) (o : List Int), st = T3o code o k /\ k <= code.length /\ o ++ bytQ (code.drop k) = bytQ code /\ m = code.length - k) ?_ ?_
  · exact ⟨_, 0, [], rfl, Nat.zero_le _, rfl, rfl⟩
  rintro m st ⟨k, o, rfl, hk, hbo, rfl⟩
  have hol : o.length <= 100000000 := by
    have := congrArg List.length hbo
    rw [List.length_append] at this; omega
  have hlo : List.take o.length o = o := List.take_length
  by_cases hkl : k < code.length
  · have e7 : IntKind.i64.wrap ((k : Int) + 1) = ((k + 1 : Nat) : Int) := wrap64_id _ (by omega) (by omega)
    have hd1 : decide ((k : Int) < (code.length : Int)) = true := decide_eq_true (by omega)
    have l1 := codeC_load code hkl
    have r1 := codeC_room code hkl
    have hdr : code.drop k = code.getD k ins00 :: code.drop (k + 1) := by
      rw [List.drop_eq_getElem_cons hkl, List.getD_eq_getElem?_getD, List.getElem?_eq_getElem hkl]; rfl
    rw [hdr] at hbo
    have hoi : okIns (code.getD k ins00) := hi _ (by rw [List.getD_eq_getElem?_getD, List.getElem?_eq_getElem hkl]; exact List.getElem_mem hkl)
    have hon := (one_ok (code.getD k ins00) hoi).wk (args' := [.fagg (insC (code.getD k ins00))]) (.cons (Wk.fagg _) .nil)
    have hbo : o ++ (oneR (code.getD k ins00) ++ bytQ (code.drop (k + 1))) = bytQ code := by
      rw [<- hbo]; unfold bytQ; rw [List.flatMap_cons]
    generalize code.getD k ins00 = i at l1 hbo hon
    generalize oneR i = y at hbo hon
    obtain ⟨io, ia, ib, il, ih, ill⟩ := i
    unfold insC at l1 hon
    simp only at l1 hon
    have hly : (o ++ y).length <= 100000000 := by
      have := congrArg List.length hbo
      rw [<- List.append_assoc, List.length_append] at this
      omega
    rw [List.length_append] at hly
    rw [<- List.append_assoc] at hbo
    have nx : type_of% @e7 /\ type_of% @hd1 /\ type_of% @l1 /\ type_of% @hlo /\ True := ⟨@e7, ⟨@hd1, ⟨@l1, ⟨@hlo, trivial⟩⟩⟩⟩
    refine' st1a0eb4
    all_goals first
      | exact ⟨code.length - (k + 1), by omega, k + 1, o ++ y, by rw [T3o, List.length_append]; rfl, by omega, hbo, rfl⟩
      | trace_state
  · have hd1 : decide ((k : Int) < (code.length : Int)) = false := decide_eq_false (by omega)
    rw [List.drop_of_length_le (by omega)] at hbo
    have hbo : o = bytQ code := by rw [<- hbo]; simp [bytQ]
    rw [<- hbo] at hA hbl
    have hob : bytes o := by rw [hbo]; exact bytQ_bytes code
    have hrd := rread_ok o hob hol 0
    have hgot := fun c to h => readS_inv hob hol (p := 0) (code := c) (to := to) h
    generalize readS o 0 = z at hA hrd hgot
    obtain ⟨c, to, e⟩ := z
    simp only at hA hrd hgot
    have e1 : (e == 0) = decide (e = 0) := rfl
    have e2 : (to == (o.length : Int)) = decide (to = (o.length : Int)) := rfl
    clear hbo
    have hcs : e ≠ 0 \/ (e = 0 /\ to ≠ o.length) \/ (e = 0 /\ to = o.length) := by omega
    rcases hcs with h | h | h
    · rw [if_pos (.inl h)] at hA
      subst hA
      have nx : type_of% @hd1 /\ type_of% @hlo /\ type_of% @e1 /\ type_of% @e2 /\ True := ⟨@hd1, ⟨@hlo, ⟨@e1, ⟨@e2, trivial⟩⟩⟩⟩
      refine' st1a0eb4
      all_goals first
        | exact .inl ⟨trivial, 2, rfl, rfl⟩
        | exact .inl ⟨rfl, 2, rfl, rfl⟩
        | trace_state
    · rw [if_pos (.inr (.inl h.2))] at hA
      subst hA
      have nx : type_of% @hd1 /\ type_of% @hlo /\ type_of% @e1 /\ type_of% @e2 /\ True := ⟨@hd1, ⟨@hlo, ⟨@e1, ⟨@e2, trivial⟩⟩⟩⟩
      refine' st1a0eb4
      all_goals first
        | exact .inl ⟨trivial, 2, rfl, rfl⟩
        | exact .inl ⟨rfl, 2, rfl, rfl⟩
        | trace_state
    · obtain ⟨rfl, rfl⟩ := h
      obtain ⟨-, hg⟩ := hgot c _ rfl
      have hcl := bytP_ge hg.ok
      have hle := hg.len
      have hsm := same_ok c code (by omega) (by omega) (fun i hj => by have := (hg.ok i hj).1.n; omega) (fun i hj => by have := (hi i hj).n; omega)
      by_cases hcc : c = code
      · rw [if_neg (by simp only [ne_eq, not_true_eq_false, false_or, Classical.not_not]; exact hcc)] at hA
        rw [decide_eq_true hcc] at hsm
        subst hA
        have nx : type_of% @hd1 /\ type_of% @hlo /\ True := ⟨@hd1, ⟨@hlo, trivial⟩⟩
        refine' st1a0eb4
        all_goals first
          | exact .inr ⟨rfl, rfl⟩
          | exact .inr ⟨trivial, trivial⟩
          | trace_state
      · rw [if_pos (.inr (.inr hcc))] at hA
        rw [decide_eq_false hcc] at hsm
        subst hA
        have nx : type_of% @hd1 /\ type_of% @hlo /\ True := ⟨@hd1, ⟨@hlo, trivial⟩⟩
        refine' st1a0eb4
        all_goals first
          | exact .inl ⟨trivial, 2, rfl, rfl⟩
          | exact .inl ⟨rfl, 2, rfl, rfl⟩
          | trace_state
theorem rwrite_ok (code : List Ins) (hi : ∀ i ∈ code, okIns i) (hz : szC code <= 10000000) :
    AC Try.prog 14 [.view code.length 6 (codeC code)] (fun v m => v = .tup [.view (writeS code).1.length 1 (nums .u8 (writeS code).1), .int .i64 (writeS code).2] /\ m = []) := by
  rw [<- rwr_eq hi hz]
  refine (rwrite_raw code hi hz).out fun v m h => ?_
  rcases h with ⟨h0, k, rfl, rfl⟩ | ⟨rfl, rfl⟩
  · refine ⟨_, _, ⟨rfl, rfl⟩, fun S w w' u ho => ?_⟩
    have h2 := ho.frz
    have e : frz1 k [] (.tup [.ref k 0 0 1, .int .i64 (rwrS code).2]) = .tup [.view (rwrS code).1.length 1 (nums .u8 (rwrS code).1), .int .i64 (rwrS code).2] := by
      rw [h0]
      simp only [frz1, V.frz, V.wipe, List.map_cons, List.map_nil, beq_self_eq_true, cond_true, List.drop_zero, List.take_nil, List.length_nil, nums]
    rw [e] at h2; exact h2
  · exact ⟨_, _, ⟨rfl, rfl⟩, fun S w w' u ho => ho⟩
end Go.Proofs.Yteppkbaeacndiaa
