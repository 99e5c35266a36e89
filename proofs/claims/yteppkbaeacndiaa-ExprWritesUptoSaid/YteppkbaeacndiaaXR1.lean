/- U32, opcode, kind, of the document. -/
import Derived.Test.YteppkbaeacndiaaDP
import Derived.Test.YteppkbaeacndiaaDB
import Derived.Test.YteppkbaeacndiaaDC
import Derived.Test.YteppkbaeacndiaaGCB
import Derived.Test.YteppkbaeacndiaaGXSt
import Derived.Test.YteppkbaeacndiaaGJoin
set_option linter.unusedSimpArgs false
set_option linter.unusedVariables false
namespace Go.Proofs.Yteppkbaeacndiaa
set_option maxRecDepth 20000
open Go Go.Abs Nat
attribute [local irreducible] AW AWL AC FW CW CWr IntKind.wrap
theorem MXR1.NM : type_of% @NSX /\ type_of% @St.keepS.eq_1 /\ type_of% @TY /\ type_of% @SLS /\ type_of% @nums_length /\ type_of% @infoL.eq_1 :=
  ⟨NSX, St.keepS.eq_1, @TY, @SLS, @nums_length, @infoL.eq_1⟩
open MXR1
theorem K1XR1.kp {P : Program} {c : Code} {Q : Exit -> St -> Prop} {st : St} (h : AW P c Q (st.keepS [0, 1, 4, 5, 6, 7, 8])) : AW P c Q st := AW.keepS _ h
theorem K1XR1.cl {p : Prop} (h : p := by
  first
    | refine AWL.frzG rfl rfl rfl ?_
    | refine AWL.cC (f := 57) cb57 rfl rfl rfl rfl rfl rfl (hu) ?_
  all_goals (apply_rules (newGoals := .nonDependentOnly) only [dep])
  all_goals constructor) : p := h
theorem K1XR1.sd {p : Prop} (h : p := by first | exact sd1eb496) : p := h
theorem K2XR1.kp {P : Program} {c : Code} {Q : Exit -> St -> Prop} {st : St} (h : AW P c Q (st.keepS [0, 1, 4, 5, 6, 7, 8, 9, 11])) : AW P c Q st := AW.keepS _ h
theorem K2XR1.cl {p : Prop} (h : p := by
  first
    | refine AWL.frzG rfl rfl rfl ?_
    | refine AWL.cC (f := 31) cb31 rfl rfl rfl rfl rfl rfl (hn) ?_
    | refine AWL.cC (f := 32) cb32 rfl rfl rfl rfl rfl rfl (hfl) ?_
    | refine AWL.cC (f := 18) cb18 rfl rfl rfl rfl rfl rfl (hof) ?_
  all_goals (apply_rules (newGoals := .nonDependentOnly) only [dep])
  all_goals constructor) : p := h
theorem K2XR1.sd {p : Prop} (h : p := by first | exact sd1eb496) : p := h
theorem K3XR1.kp {P : Program} {c : Code} {Q : Exit -> St -> Prop} {st : St} (h : AW P c Q (st.keepS [0, 1, 4, 5, 6, 7, 8, 9])) : AW P c Q st := AW.keepS _ h
theorem K3XR1.cl {p : Prop} (h : p := by
  first
    | refine AWL.frzG rfl rfl rfl ?_
    | refine AWL.cC (f := 39) cb39 rfl rfl rfl rfl rfl rfl (hs) ?_
  all_goals (apply_rules (newGoals := .nonDependentOnly) only [dep])
  all_goals constructor) : p := h
theorem K3XR1.sd {p : Prop} (h : p := by first | exact sd1eb496) : p := h
open K1XR1 in
set_option maxHeartbeats 1600000 in
theorem u32_ok (b : List Int) (hb : bytes b) (hlen : b.length <= 1000000000) (p : Int) (h : 0 <= p /\ p <= b.length) : AC Try.prog 31 [.view b.length 1 (nums .u8 b), .int .i64 p] (fun v m => v = .tup [.int .i64 (u32S b p).1, .int .i64 (u32S b p).2] /\ m = []) := by
  have hu := ru_at b hb (by omega) p 32
  have hus := fun c => uSpec_ok hb h c
  obtain ⟨A, hA⟩ : ∃ A, u32S b p = A := ⟨_, rfl⟩
  rw [hA]
  unfold u32S at hA
  generalize uSpec b p 32 = z at hu hus hA
  obtain ⟨n, to, e⟩ := z
  simp only at hu hus hA
  refine AC.enter Try.func31 rfl (Nat.le_of_ble_eq_true rfl) ?_
  simp only [Try.f31]
  by_cases c : e ≠ 0
  · rw [if_pos c] at hA
    subst hA
    have nx : True := trivial
    refine' st5fc436
    all_goals first | exact ⟨trivial, trivial⟩ | exact ⟨rfl, trivial⟩ | exact ⟨rfl, rfl⟩ | exact ⟨trivial, rfl⟩ | (exfalso; omega) | trace_state
  · rw [if_neg c] at hA
    subst hA
    have hus := hus (Classical.not_not.1 c)
    have ew : IntKind.i64.wrap n = n := wrap64_id _ (by omega) (by omega)
    have nx : type_of% @ew /\ True := ⟨@ew, trivial⟩
    refine' st5fc436
    all_goals first | exact ⟨trivial, trivial⟩ | exact ⟨rfl, trivial⟩ | exact ⟨rfl, rfl⟩ | exact ⟨trivial, rfl⟩ | (exfalso; omega) | trace_state
open K2XR1 in
set_option maxHeartbeats 3200000 in
theorem opcode_ok (b : List Int) (hb : bytes b) (hlen : b.length <= 1000000000) (k : Nat) (h : k <= b.length) : AC Try.prog 17 [.view b.length 1 (nums .u8 b), .int .i64 (k : Int)] (fun v m => v = .tup [.int .i64 (opcS b k).1, .int .i64 (opcS b k).2.1, .int .i64 (opcS b k).2.2] /\ m = []) := by
  have hn : True := trivial
  have hfl : True := trivial
  have hof : True := trivial
  obtain ⟨A, hA⟩ : ∃ A, opcS b k = A := ⟨_, rfl⟩
  rw [hA]
  unfold opcS at hA
  rw [Int.toNat_natCast] at hA
  have ew : IntKind.i64.wrap ((k : Int) + 1) = (k : Int) + 1 := wrap64_id _ (by omega) (by omega)
  by_cases hk : (k : Int) >= b.length
  · rw [if_pos hk] at hA
    subst hA
    refine AC.enter Try.func17 rfl (Nat.le_of_ble_eq_true rfl) ?_
    simp only [Try.f17]
    have nx : True := trivial
    refine' st1a0eb4
    all_goals first | exact ⟨trivial, trivial⟩ | exact ⟨rfl, trivial⟩ | exact ⟨rfl, rfl⟩ | exact ⟨trivial, rfl⟩ | (exfalso; omega) | trace_state
  rw [if_neg hk] at hA
  have hx := hb _ (getD_mem (show k < b.length by omega))
  obtain ⟨c, hxc⟩ : ∃ c, b.getD k 0 = c := ⟨_, rfl⟩
  rw [hxc] at hA hx
  have hx1 := hx.1
  have hx2 := hx.2
  have ex : IntKind.i64.wrap c = c := wrap64_id _ (by omega) (by omega)
  by_cases h1 : c = 252 \/ c = 253
  · rw [if_pos h1] at hA
    have hn := u32_ok b hb hlen ((k : Int) + 1) ⟨by omega, by omega⟩
    have hno := u32S_ok hb (p := (k : Int) + 1) ⟨by omega, by omega⟩
    generalize u32S b ((k : Int) + 1) = z at hA hn hno
    obtain ⟨n, to⟩ := z
    simp only at hA hn hno
    by_cases h2 : to < 0
    · rw [if_pos h2] at hA
      subst hA
      refine AC.enter Try.func17 rfl (Nat.le_of_ble_eq_true rfl) ?_
      simp only [Try.f17]
      have nx : type_of% @ew /\ type_of% @hxc /\ type_of% @ex /\ True := ⟨@ew, ⟨@hxc, ⟨@ex, trivial⟩⟩⟩
      refine' st1a0eb4
      all_goals first | exact ⟨trivial, trivial⟩ | exact ⟨rfl, trivial⟩ | exact ⟨rfl, rfl⟩ | exact ⟨trivial, rfl⟩ | (exfalso; omega) | trace_state
    rw [if_neg h2] at hA
    by_cases h3 : c = 252 /\ n <= 7
    · rw [if_pos h3] at hA
      subst hA
      obtain ⟨rfl, h3⟩ := h3
      refine AC.enter Try.func17 rfl (Nat.le_of_ble_eq_true rfl) ?_
      simp only [Try.f17]
      have nx : type_of% @ew /\ type_of% @hxc /\ type_of% @ex /\ True := ⟨@ew, ⟨@hxc, ⟨@ex, trivial⟩⟩⟩
      refine' st1a0eb4
      all_goals first | exact ⟨trivial, trivial⟩ | exact ⟨rfl, trivial⟩ | exact ⟨rfl, rfl⟩ | exact ⟨trivial, rfl⟩ | (exfalso; omega) | trace_state
    rw [if_neg h3] at hA
    by_cases h4 : c = 252 \/ n > 255
    · rw [if_pos h4] at hA
      subst hA
      refine AC.enter Try.func17 rfl (Nat.le_of_ble_eq_true rfl) ?_
      simp only [Try.f17]
      have nx : type_of% @ew /\ type_of% @hxc /\ type_of% @ex /\ True := ⟨@ew, ⟨@hxc, ⟨@ex, trivial⟩⟩⟩
      refine' st1a0eb4
      all_goals first | exact ⟨trivial, trivial⟩ | exact ⟨rfl, trivial⟩ | exact ⟨rfl, rfl⟩ | exact ⟨trivial, rfl⟩ | (exfalso; omega) | trace_state
    rw [if_neg h4] at hA
    obtain rfl : c = 253 := by omega
    have en : IntKind.i64.wrap (64768 + n) = 64768 + n := wrap64_id _ (by omega) (by omega)
    have hfl := rfloat_ok (64768 + n)
    have hof := rof_look (64768 + n)
    unfold opkS at hA
    generalize ofS (64768 + n) = z at hof hA
    generalize flS (64768 + n) = f at hfl hA
    obtain ⟨z1, z2⟩ := z
    refine AC.enter Try.func17 rfl (Nat.le_of_ble_eq_true rfl) ?_
    simp only [Try.f17]
    cases f <;> cases z2 <;> simp only [Bool.false_eq_true, ↓reduceIte] at hA <;> subst hA
    all_goals
      have nx : type_of% @ew /\ type_of% @hxc /\ type_of% @ex /\ type_of% @en /\ True := ⟨@ew, ⟨@hxc, ⟨@ex, ⟨@en, trivial⟩⟩⟩⟩
      refine' st1a0eb4
      all_goals first | exact ⟨trivial, trivial⟩ | exact ⟨rfl, trivial⟩ | exact ⟨rfl, rfl⟩ | exact ⟨trivial, rfl⟩ | (exfalso; omega) | trace_state
  · rw [if_neg h1] at hA
    have hfl := rfloat_ok c
    have hof := rof_look c
    unfold opkS at hA
    generalize ofS c = z at hof hA
    generalize flS c = f at hfl hA
    obtain ⟨z1, z2⟩ := z
    refine AC.enter Try.func17 rfl (Nat.le_of_ble_eq_true rfl) ?_
    simp only [Try.f17]
    cases f <;> cases z2 <;> simp only [Bool.false_eq_true, ↓reduceIte] at hA <;> subst hA
    all_goals
      have nx : type_of% @ew /\ type_of% @hxc /\ type_of% @ex /\ True := ⟨@ew, ⟨@hxc, ⟨@ex, trivial⟩⟩⟩
      refine' st1a0eb4
      all_goals first | exact ⟨trivial, trivial⟩ | exact ⟨rfl, trivial⟩ | exact ⟨rfl, rfl⟩ | exact ⟨trivial, rfl⟩ | (exfalso; omega) | trace_state
open K3XR1 in
set_option maxHeartbeats 3200000 in
theorem rkind_ok (b : List Int) (hb : bytes b) (hlen : b.length <= 1000000000) (k : Nat) (h : k <= b.length) : AC Try.prog 37 [.view b.length 1 (nums .u8 b), .int .i64 (k : Int)] (fun v m => v = .tup [.int .i64 (kndS b k).1, .int .i64 (kndS b k).2.1, .int .i64 (kndS b k).2.2] /\ m = []) := by
  have hs := rs_at b hb (by omega) k 33
  obtain ⟨A, hA⟩ : ∃ A, kndS b k = A := ⟨_, rfl⟩
  rw [hA]
  unfold kndS at hA
  rw [Int.toNat_natCast] at hA
  have ew : IntKind.i64.wrap ((k : Int) + 1) = (k : Int) + 1 := wrap64_id _ (by omega) (by omega)
  generalize sSpec b k 33 = z at hs hA
  obtain ⟨n, to, e⟩ := z
  simp only at hs hA
  by_cases hk : (k : Int) < b.length
  · have hx := hb _ (getD_mem (show k < b.length by omega))
    obtain ⟨c, hxc⟩ : ∃ c, b.getD k 0 = c := ⟨_, rfl⟩
    rw [hxc] at hA hx
    have hx1 := hx.1
    have hx2 := hx.2
    have ex : IntKind.i64.wrap c = c := wrap64_id _ (by omega) (by omega)
    have ex2 : IntKind.i64.wrap (c - 128) = c - 128 := wrap64_id _ (by omega) (by omega)
    by_cases c1 : floatC c
    · rw [if_pos ⟨hk, c1⟩] at hA
      subst hA
      unfold floatC at c1
      refine AC.enter Try.func37 rfl (Nat.le_of_ble_eq_true rfl) ?_
      simp only [Try.f37]
      rcases c1 with rfl | rfl
      all_goals
        have nx : type_of% @ew /\ type_of% @hxc /\ type_of% @ex /\ type_of% @ex2 /\ True := ⟨@ew, ⟨@hxc, ⟨@ex, ⟨@ex2, trivial⟩⟩⟩⟩
        refine' st1a0eb4
        all_goals first | exact ⟨trivial, trivial⟩ | exact ⟨rfl, trivial⟩ | exact ⟨rfl, rfl⟩ | exact ⟨trivial, rfl⟩ | (exfalso; omega) | trace_state
    · rw [if_neg (fun h => c1 h.2)] at hA
      by_cases c2 : kindC c
      · rw [if_pos ⟨hk, c2⟩] at hA
        subst hA
        unfold kindC at c2
        refine AC.enter Try.func37 rfl (Nat.le_of_ble_eq_true rfl) ?_
        simp only [Try.f37]
        rcases c2 with rfl | rfl | rfl | rfl
        all_goals
          have nx : type_of% @ew /\ type_of% @hxc /\ type_of% @ex /\ type_of% @ex2 /\ True := ⟨@ew, ⟨@hxc, ⟨@ex, ⟨@ex2, trivial⟩⟩⟩⟩
          refine' st1a0eb4
          all_goals first | exact ⟨trivial, trivial⟩ | exact ⟨rfl, trivial⟩ | exact ⟨rfl, rfl⟩ | exact ⟨trivial, rfl⟩ | (exfalso; omega) | trace_state
      · rw [if_neg (fun h => c2 h.2)] at hA
        unfold floatC at c1
        unfold kindC at c2
        by_cases c3 : e ≠ 0 \/ n < 0
        · rw [if_pos c3] at hA
          subst hA
          refine AC.enter Try.func37 rfl (Nat.le_of_ble_eq_true rfl) ?_
          simp only [Try.f37]
          have nx : type_of% @ew /\ type_of% @hxc /\ type_of% @ex /\ type_of% @ex2 /\ True := ⟨@ew, ⟨@hxc, ⟨@ex, ⟨@ex2, trivial⟩⟩⟩⟩
          refine' st1a0eb4
          all_goals first | exact ⟨trivial, trivial⟩ | exact ⟨rfl, trivial⟩ | exact ⟨rfl, rfl⟩ | exact ⟨trivial, rfl⟩ | (exfalso; omega) | trace_state
        · rw [if_neg c3] at hA
          subst hA
          refine AC.enter Try.func37 rfl (Nat.le_of_ble_eq_true rfl) ?_
          simp only [Try.f37]
          have nx : type_of% @ew /\ type_of% @hxc /\ type_of% @ex /\ type_of% @ex2 /\ True := ⟨@ew, ⟨@hxc, ⟨@ex, ⟨@ex2, trivial⟩⟩⟩⟩
          refine' st1a0eb4
          all_goals first | exact ⟨trivial, trivial⟩ | exact ⟨rfl, trivial⟩ | exact ⟨rfl, rfl⟩ | exact ⟨trivial, rfl⟩ | (exfalso; omega) | trace_state
  · rw [if_neg (fun h => hk h.1), if_neg (fun h => hk h.1)] at hA
    refine AC.enter Try.func37 rfl (Nat.le_of_ble_eq_true rfl) ?_
    simp only [Try.f37]
    by_cases c3 : e ≠ 0 \/ n < 0
    · rw [if_pos c3] at hA
      subst hA
      have nx : type_of% @ew /\ True := ⟨@ew, trivial⟩
      refine' st1a0eb4
      all_goals first | exact ⟨trivial, trivial⟩ | exact ⟨rfl, trivial⟩ | exact ⟨rfl, rfl⟩ | exact ⟨trivial, rfl⟩ | (exfalso; omega) | trace_state
    · rw [if_neg c3] at hA
      subst hA
      have nx : type_of% @ew /\ True := ⟨@ew, trivial⟩
      refine' st1a0eb4
      all_goals first | exact ⟨trivial, trivial⟩ | exact ⟨rfl, trivial⟩ | exact ⟨rfl, rfl⟩ | exact ⟨trivial, rfl⟩ | (exfalso; omega) | trace_state
end Go.Proofs.Yteppkbaeacndiaa
