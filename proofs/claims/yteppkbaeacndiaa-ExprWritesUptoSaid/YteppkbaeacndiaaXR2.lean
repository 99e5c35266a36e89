/- done, bytes, of the document. -/
import Derived.Test.YteppkbaeacndiaaDP
import Derived.Test.YteppkbaeacndiaaDB
import Derived.Test.YteppkbaeacndiaaDC
import Derived.Test.YteppkbaeacndiaaGCB
import Derived.Test.YteppkbaeacndiaaXR1
import Derived.Test.YteppkbaeacndiaaGXSt
import Derived.Test.YteppkbaeacndiaaGRSplit
set_option linter.unusedSimpArgs false
set_option linter.unusedVariables false
namespace Go.Proofs.Yteppkbaeacndiaa
set_option maxRecDepth 20000
open Go Go.Abs Nat
attribute [local irreducible] AW AWL AC FW CW CWr IntKind.wrap
def zeroO (k : Nat) : List V := [.int .i64 0, .int .i64 0, .int .i64 0, .int .u64 0, .int .u64 0, .ref k 0 0 1]
theorem frz_zeroO (k : Nat) (t e : Int) : frz1 k [] (.tup [.agg (zeroO k), .int .i64 t, .int .i64 e]) = .tup [.agg (insC ins0), .int .i64 t, .int .i64 e] := by
  simp [frz1, zeroO, insC, ins0, V.frz, V.wipe, nums]
def T12x (b : List Int) (p : Int) (i : Ins) (v : List Int) (k : Nat) : St := { n := 77, slots := [(0, .view b.length 1 (nums .u8 b)), (1, .int .i64 p), (6, .ptr 6 0), (8, .ptr 8 0), (11, .ptr 11 0), (12, .int .i64 (k : Int))], mem := [(6, ⟨false, [.int .i64 i.op, .int .i64 i.a, .int .i64 i.b, .int .u64 i.lo, .int .u64 i.hi, .view i.l.length 1 (nums .i64 i.l)]⟩), (8, ⟨false, [.int .i64 0, .int .i64 0, .int .i64 0, .int .u64 0, .int .u64 0, .ref 9005 0 0 1]⟩), (9005, ⟨true, []⟩), (11, ⟨true, nums .u8 v⟩)] }
theorem MXR2.NM : type_of% @NSX /\ type_of% @St.keepS.eq_1 /\ type_of% @TY /\ type_of% @SLS /\ type_of% @nums_length /\ type_of% @take16 /\ type_of% @T12x.eq_1 :=
  ⟨NSX, St.keepS.eq_1, @TY, @SLS, @nums_length, @take16, @T12x.eq_1⟩
open MXR2
theorem K1XR2.kp {P : Program} {c : Code} {Q : Exit -> St -> Prop} {st : St} (h : AW P c Q (st.keepS [0, 1, 2, 4, 5, 6])) : AW P c Q st := AW.keepS _ h
theorem K1XR2.cl {p : Prop} (h : p := by
  first
    | refine AWL.frzG rfl rfl rfl ?_
  all_goals (apply_rules (newGoals := .nonDependentOnly) only [dep])
  all_goals constructor) : p := h
theorem K1XR2.sd {p : Prop} (h : p := by first | exact sd1eb496) : p := h
theorem K2XR2.kp {P : Program} {c : Code} {Q : Exit -> St -> Prop} {st : St} (h : AW P c Q (st.keepS [0, 1, 2, 3, 6, 8, 9, 10, 11, 12, 13])) : AW P c Q st := AW.keepS _ h
theorem K2XR2.cl {p : Prop} (h : p := by
  first
    | refine AWL.frzG rfl rfl rfl ?_
    | refine AWL.cC (f := 59) cb59 rfl rfl rfl rfl rfl rfl (hsp) ?_
  all_goals (apply_rules (newGoals := .nonDependentOnly) only [dep])
  all_goals constructor) : p := h
theorem K2XR2.sd {p : Prop} (h : p := by first | exact sd1eb496) : p := h
open K1XR2 in
set_option maxHeartbeats 1600000 in
theorem done_raw (i : Ins) (p : Int) : AC Try.prog 38 [.agg (insC i), .int .i64 p] (fun v m => (p < 0 /\ v = .tup [.agg (zeroO 5005), .int .i64 0, .int .i64 10] /\ m = [(5005, [])]) \/ (¬ p < 0 /\ v = .tup [.agg (insC i), .int .i64 p, .int .i64 0] /\ m = [])) := by
  unfold insC zeroO
  refine AC.enter Try.func38 rfl (Nat.le_of_ble_eq_true rfl) ?_
  simp only [Try.f38]
  by_cases h : p < 0
  · have nx : True := trivial
    refine' stf0f69d
    all_goals first | exact ⟨trivial, trivial⟩ | exact ⟨rfl, trivial⟩ | exact ⟨rfl, rfl⟩ | exact ⟨trivial, rfl⟩ | exact .inl ⟨h, trivial, trivial⟩ | (exfalso; omega) | trace_state
  · have nx : True := trivial
    refine' stf0f69d
    all_goals first | exact ⟨trivial, trivial⟩ | exact ⟨rfl, trivial⟩ | exact ⟨rfl, rfl⟩ | exact ⟨trivial, rfl⟩ | exact .inr ⟨h, trivial, trivial⟩ | (exfalso; omega) | trace_state
theorem done_ok (i : Ins) (p : Int) : AC Try.prog 38 [.agg (insC i), .int .i64 p] (fun v m => v = .tup [.agg (insC (doneS i p).1), .int .i64 (doneS i p).2.1, .int .i64 (doneS i p).2.2] /\ m = []) := by
  refine (done_raw i p).out fun v m h => ?_
  rcases h with ⟨h0, rfl, rfl⟩ | ⟨h0, rfl, rfl⟩
  · refine ⟨_, _, ⟨rfl, rfl⟩, fun S w w' u ho => ?_⟩
    have h2 := ho.frz
    rw [frz_zeroO] at h2
    rw [show doneS i p = (ins0, 0, 10) from if_pos h0]; exact h2
  · refine ⟨_, _, ⟨rfl, rfl⟩, fun S w w' u ho => ?_⟩
    rw [show doneS i p = (i, p, 0) from if_neg h0]; exact ho
theorem take_snoc2 (b : List Int) {p k : Nat} (h : p + k < b.length) : (b.drop p).take (k + 1) = (b.drop p).take k ++ [b.getD (p + k) 0] := by
  rw [List.take_add_one, List.getElem?_drop, List.getElem?_eq_getElem h, List.getD_eq_getElem?_getD, List.getElem?_eq_getElem h]; rfl
open K2XR2 in
set_option maxHeartbeats 6400000 in
theorem bytes_raw (b : List Int) (hb : bytes b) (hlen : b.length <= 1000000000) (p : Nat) (hp : p <= b.length) (i : Ins) (form : Int) : AC Try.prog 40 [.view b.length 1 (nums .u8 b), .int .i64 (p : Int), .agg (insC i), .int .i64 form] (fun v m => ((bytR b p i form).2.2 ≠ 0 /\ bytR b p i form = (ins0, 0, 10) /\ v = .tup [.agg (zeroO 9005), .int .i64 0, .int .i64 10] /\ m = [(9005, [])]) \/ ((bytR b p i form).2.2 = 0 /\ v = .tup [.agg (insC (bytR b p i form).1), .int .i64 (bytR b p i form).2.1, .int .i64 0] /\ m = [])) := by
  have hsp : True := trivial
  obtain ⟨A, hA⟩ : ∃ A, bytR b p i form = A := ⟨_, rfl⟩
  rw [hA]
  unfold bytR at hA
  rw [Int.toNat_natCast] at hA
  unfold zeroO
  obtain ⟨io, ia, ib, il, ih, ill⟩ := i
  unfold insC
  refine AC.enter Try.func40 rfl (Nat.le_of_ble_eq_true rfl) ?_
  simp only [Try.f40]
  have e1 : IntKind.i64.wrap ((b.length : Int) - p) = (b.length : Int) - p := wrap64_id _ (by omega) (by omega)
  have e2 : IntKind.i64.wrap ((p : Int) + 16) = (p : Int) + 16 := wrap64_id _ (by omega) (by omega)
  have e3 : IntKind.i64.wrap ((p : Int) + 1) = (p : Int) + 1 := wrap64_id _ (by omega) (by omega)
  by_cases hf : form = 11 \/ form = 12
  · rw [if_pos hf] at hA
    by_cases h16 : (b.length : Int) - p < 16
    · rw [if_pos h16] at hA
      subst hA
      rcases hf with rfl | rfl
      all_goals
        have nx : type_of% @e1 /\ True := ⟨@e1, trivial⟩
        refine' st0252bb
        all_goals first | exact ⟨trivial, trivial⟩ | exact ⟨rfl, trivial⟩ | exact ⟨rfl, rfl⟩ | exact ⟨trivial, rfl⟩ | exact .inl ⟨by decide, trivial, trivial, trivial⟩ | (exfalso; omega) | trace_state
    · rw [if_neg h16] at hA
      have hwl : ((b.drop p).take 16).length = 16 := by rw [List.length_take, List.length_drop]; omega
      have hwb : bytes ((b.drop p).take 16) := bytes_take (bytes_drop hb p) 16
      obtain ⟨w, hw⟩ : ∃ w, (b.drop p).take 16 = w := ⟨_, rfl⟩
      rw [hw] at hA hwl hwb
      subst hA
      have hsp := rsplit_ok w hwl hwb
      rcases hf with rfl | rfl
      all_goals
        have nx : type_of% @e1 /\ True := ⟨@e1, trivial⟩
        refine' st0252bb
        refine AW.loop [0, 1, 6, 8, 11, 12] [6, 8, 9005, 11] (fun m st => ∃ (k : Nat), st = T12x b p ⟨io, ia, ib, il, ih, ill⟩ ((b.drop p).take k ++ zs (16 - k)) k /\ k <= 16 /\ m = 16 - k) ?_ ?_
        · exact ⟨_, 0, rfl, Nat.zero_le _, rfl⟩
        rintro m st ⟨k, rfl, hk, rfl⟩
        by_cases hk16 : k < 16
        · have e5 : IntKind.i64.wrap ((k : Int) + 1) = ((k + 1 : Nat) : Int) := wrap64_id _ (by omega) (by omega)
          have e6 : IntKind.i64.wrap ((p : Int) + k) = ((p + k : Nat) : Int) := wrap64_id _ (by omega) (by omega)
          have hvl : ((b.drop p).take k).length = k := by rw [List.length_take, List.length_drop]; omega
          have hset := setI_zs ((b.drop p).take k) k hvl hk16 (b.getD (p + k) 0)
          rw [<- take_snoc2 b (by omega)] at hset
          have hzl : ((b.drop p).take k ++ zs (16 - k)).length = 16 := by rw [List.length_append, hvl]; unfold zs; rw [List.length_replicate]; omega
          have nx : type_of% @e5 /\ type_of% @e6 /\ type_of% @hset /\ type_of% @hzl /\ True := ⟨@e5, ⟨@e6, ⟨@hset, ⟨@hzl, trivial⟩⟩⟩⟩
          refine' st0252bb
          all_goals first
            | exact ⟨16 - (k + 1), by omega, k + 1, rfl, by omega, rfl⟩
            | trace_state
        · obtain rfl : k = 16 := by omega
          have hz0 : (b.drop p).take 16 ++ zs (16 - 16) = w := by rw [hw]; exact List.append_nil w
          rw [hz0]
          have nx : type_of% @e2 /\ True := ⟨@e2, trivial⟩
          refine' st0252bb
          all_goals first | exact ⟨trivial, trivial⟩ | exact ⟨rfl, trivial⟩ | exact ⟨rfl, rfl⟩ | exact ⟨trivial, rfl⟩ | exact .inr ⟨trivial, trivial, trivial⟩ | (exfalso; omega) | trace_state
  · rw [if_neg hf] at hA
    by_cases hpl : p < b.length
    · have hx := hb _ (getD_mem hpl)
      obtain ⟨c, hxc⟩ : ∃ c, b.getD p 0 = c := ⟨_, rfl⟩
      rw [hxc] at hA hx
      have hx1 := hx.1
      have hx2 := hx.2
      have ex : IntKind.i64.wrap c = c := wrap64_id _ (by omega) (by omega)
      by_cases h14 : form = 14
      · subst h14
        by_cases hc0 : c = 0
        · rw [if_neg (fun h => h.elim (by omega) (fun h => h.2 hc0)), if_neg (by decide)] at hA
          subst hA
          have nx : type_of% @hxc /\ type_of% @ex /\ type_of% @e3 /\ True := ⟨@hxc, ⟨@ex, ⟨@e3, trivial⟩⟩⟩
          refine' st0252bb
          all_goals first | exact ⟨trivial, trivial⟩ | exact ⟨rfl, trivial⟩ | exact ⟨rfl, rfl⟩ | exact ⟨trivial, rfl⟩ | exact .inr ⟨trivial, trivial, trivial⟩ | (exfalso; omega) | trace_state
        · rw [if_pos (.inr ⟨rfl, hc0⟩)] at hA
          subst hA
          have nx : type_of% @hxc /\ type_of% @ex /\ type_of% @e3 /\ True := ⟨@hxc, ⟨@ex, ⟨@e3, trivial⟩⟩⟩
          refine' st0252bb
          all_goals first | exact ⟨trivial, trivial⟩ | exact ⟨rfl, trivial⟩ | exact ⟨rfl, rfl⟩ | exact ⟨trivial, rfl⟩ | exact .inl ⟨by decide, trivial, trivial, trivial⟩ | (exfalso; omega) | trace_state
      · rw [if_neg (fun h => h.elim (by omega) (fun h => h14 h.1))] at hA
        by_cases h13 : form = 13
        · rw [if_pos h13] at hA
          subst h13 hA
          have nx : type_of% @hxc /\ type_of% @ex /\ type_of% @e3 /\ True := ⟨@hxc, ⟨@ex, ⟨@e3, trivial⟩⟩⟩
          refine' st0252bb
          all_goals first | exact ⟨trivial, trivial⟩ | exact ⟨rfl, trivial⟩ | exact ⟨rfl, rfl⟩ | exact ⟨trivial, rfl⟩ | exact .inr ⟨trivial, trivial, trivial⟩ | (exfalso; omega) | trace_state
        · rw [if_neg h13] at hA
          subst hA
          have nx : type_of% @hxc /\ type_of% @ex /\ type_of% @e3 /\ True := ⟨@hxc, ⟨@ex, ⟨@e3, trivial⟩⟩⟩
          refine' st0252bb
          all_goals first | exact ⟨trivial, trivial⟩ | exact ⟨rfl, trivial⟩ | exact ⟨rfl, rfl⟩ | exact ⟨trivial, rfl⟩ | exact .inr ⟨trivial, trivial, trivial⟩ | (exfalso; omega) | trace_state
    · rw [if_pos (.inl (by omega))] at hA
      subst hA
      have nx : True := trivial
      refine' st0252bb
      all_goals first | exact ⟨trivial, trivial⟩ | exact ⟨rfl, trivial⟩ | exact ⟨rfl, rfl⟩ | exact ⟨trivial, rfl⟩ | exact .inl ⟨by decide, trivial, trivial, trivial⟩ | (exfalso; omega) | trace_state
theorem bytes_ok (b : List Int) (hb : bytes b) (hlen : b.length <= 1000000000) (p : Nat) (hp : p <= b.length) (i : Ins) (form : Int) : AC Try.prog 40 [.view b.length 1 (nums .u8 b), .int .i64 (p : Int), .agg (insC i), .int .i64 form] (fun v m => v = .tup [.agg (insC (bytR b p i form).1), .int .i64 (bytR b p i form).2.1, .int .i64 (bytR b p i form).2.2] /\ m = []) := by
  refine (bytes_raw b hb hlen p hp i form).out fun v m h => ?_
  rcases h with ⟨h0, h1, rfl, rfl⟩ | ⟨h0, rfl, rfl⟩
  · refine ⟨_, _, ⟨rfl, rfl⟩, fun S w w' u ho => ?_⟩
    have h2 := ho.frz
    rw [frz_zeroO] at h2
    rw [h1]; exact h2
  · refine ⟨_, _, ⟨rfl, rfl⟩, fun S w w' u ho => ?_⟩
    rw [h0]; exact ho
end Go.Proofs.Yteppkbaeacndiaa
