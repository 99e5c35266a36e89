/- the document's Lanes. -/
import Derived.Test.YteppkbaeacndiaaDP
import Derived.Test.YteppkbaeacndiaaDB
import Derived.Test.YteppkbaeacndiaaDC
import Derived.Test.YteppkbaeacndiaaGCB
import Derived.Test.YteppkbaeacndiaaGJoin
set_option linter.unusedSimpArgs false
set_option linter.unusedVariables false
namespace Go.Proofs.Yteppkbaeacndiaa
set_option maxRecDepth 20000
open Go Go.Abs Nat
theorem cb67 : callable Try.prog 67 = true := by kernel_rfl
theorem cb68 : callable Try.prog 68 = true := by kernel_rfl
attribute [local irreducible] AW AWL AC FW CW CWr IntKind.wrap
theorem MRLanes.NM : type_of% @NSX /\ type_of% @St.keepS.eq_1 /\ type_of% @TY /\ type_of% @SLS /\ type_of% @take16 /\ type_of% @drop16 /\ type_of% @dz /\ type_of% @nums_length :=
  ⟨NSX, St.keepS.eq_1, @TY, @SLS, @take16, @drop16, @dz, @nums_length⟩
open MRLanes
theorem K1RLanes.kp {P : Program} {c : Code} {Q : Exit -> St -> Prop} {st : St} (h : AW P c Q (st.keepS [0, 2])) : AW P c Q st := AW.keepS _ h
theorem K1RLanes.sd {p : Prop} (h : p := by first | exact sdd796e3) : p := h
open K1RLanes in
theorem rlanes_ok (w : Int) : AC Try.prog 68 [.int .i64 w] (fun r m => r = .int .i64 (lanes w) /\ m = []) := by
  by_cases h1 : w = 8
  · subst h1
    refine AC.enter Try.func68 rfl (Nat.le_of_ble_eq_true rfl) ?_
    simp only [Try.f68]
    have nx : True := trivial
    refine' st518d76
    all_goals first | exact ⟨rfl, trivial⟩ | exact ⟨congrArg (V.int .i64) (by decide +kernel), trivial⟩ | trace_state
  by_cases h2 : w = 16
  · subst h2
    refine AC.enter Try.func68 rfl (Nat.le_of_ble_eq_true rfl) ?_
    simp only [Try.f68]
    have nx : True := trivial
    refine' st518d76
    all_goals first | exact ⟨rfl, trivial⟩ | exact ⟨congrArg (V.int .i64) (by decide +kernel), trivial⟩ | trace_state
  by_cases h3 : w = 32
  · subst h3
    refine AC.enter Try.func68 rfl (Nat.le_of_ble_eq_true rfl) ?_
    simp only [Try.f68]
    have nx : True := trivial
    refine' st518d76
    all_goals first | exact ⟨rfl, trivial⟩ | exact ⟨congrArg (V.int .i64) (by decide +kernel), trivial⟩ | trace_state
  by_cases h4 : w = 64
  · subst h4
    refine AC.enter Try.func68 rfl (Nat.le_of_ble_eq_true rfl) ?_
    simp only [Try.f68]
    have nx : True := trivial
    refine' st518d76
    all_goals first | exact ⟨rfl, trivial⟩ | exact ⟨congrArg (V.int .i64) (by decide +kernel), trivial⟩ | trace_state
  have e : lanes w = 0 := by unfold lanes; simp [h1, h2, h3, h4]
  rw [e]
  refine AC.enter Try.func68 rfl (Nat.le_of_ble_eq_true rfl) ?_
  simp only [Try.f68]
  have nx : True := trivial
  refine' st518d76
  all_goals first | exact ⟨rfl, trivial⟩ | (exfalso; omega) | trace_state
end Go.Proofs.Yteppkbaeacndiaa
namespace Go.Proofs.Yteppkbaeacndiaa
set_option maxRecDepth 20000
open Go Go.Abs Nat
attribute [local irreducible] AW AWL AC FW CW CWr IntKind.wrap
def S21 (v : List Int) (w i x k : Int) : St := { n := 42, slots := [(1, .int .i64 w), (2, .int .i64 i), (3, .ptr 3 0), (7, .int .u64 x), (8, .int .i64 k)], mem := [(3, ⟨true, nums .u8 v⟩)] }
theorem le_drop {l : List Int} {k : Nat} (h : k < l.length) : le (l.drop k) = l.getD k 0 + 256 * le (l.drop (k + 1)) := by
  rw [List.drop_eq_getElem_cons h, le]; simp [List.getD, h]
theorem MRGet.NM : type_of% @NSX /\ type_of% @St.keepS.eq_1 /\ type_of% @TY /\ type_of% @SLS /\ type_of% @take16 /\ type_of% @drop16 /\ type_of% @dz /\ type_of% @nums_length /\ type_of% @S21.eq_1 :=
  ⟨NSX, St.keepS.eq_1, @TY, @SLS, @take16, @drop16, @dz, @nums_length, @S21.eq_1⟩
open MRGet
theorem K1RGet.kp {P : Program} {c : Code} {Q : Exit -> St -> Prop} {st : St} (h : AW P c Q (st.keepS [0, 1, 2, 3, 6, 7, 8])) : AW P c Q st := AW.keepS _ h
theorem K1RGet.cl {p : Prop} (h : p := by
  first
    | refine AWL.frzG rfl rfl rfl ?_
    | refine AWL.cC (f := 68) cb68 rfl rfl rfl rfl rfl rfl (rlanes_ok _) ?_
  all_goals (apply_rules (newGoals := .nonDependentOnly) only [dep])
  all_goals constructor) : p := h
theorem K1RGet.sd {p : Prop} (h : p := by first | exact sdd796e3) : p := h
open K1RGet in
set_option maxHeartbeats 1600000 in
theorem rget_ok (v : List Int) (hl : v.length = 16) (hb : bytes v) (w i : Int) : AC Try.prog 67 [.fagg (nums .u8 v), .int .i64 w, .int .i64 i] (fun r m => r = .int .u64 (get v w i) /\ m = []) := by
  by_cases hi : 0 <= i /\ i < lanes w
  · obtain ⟨i0, rfl⟩ : ∃ i0 : Nat, i = i0 := ⟨i.toNat, by omega⟩
    obtain ⟨h0, h16⟩ := lane_in (w := w) (i := i0) (by omega)
    have e1 := wbe h0
    have e2 : IntKind.i64.wrap ((i0 : Int) * (wb w : Nat)) = ((i0 * wb w : Nat) : Int) := by rw [<- Int.natCast_mul]; exact wrap64_id _ (by omega) (by omega)
    obtain ⟨g, hg⟩ : ∃ g, g = (v.drop (i0 * wb w)).take (wb w) := ⟨_, rfl⟩
    have hgg : get v w i0 = le g := by unfold get; rw [if_pos (by omega), Int.toNat_natCast, hg]
    have hby : bytes g := by rw [hg]; exact bytes_take (bytes_drop hb (i0 * wb w)) (wb w)
    have hlt : g.length = wb w := by rw [hg, List.length_take, List.length_drop]; omega
    have h8 := (lanes_wb h0).2.2.2
    have e4 : IntKind.i64.wrap ((wb w : Nat) - 1 : Int) = (wb w : Nat) - 1 := wrap64_id _ (by omega) (by omega)
    have hat : ∀ k, k < wb w -> v.getD (i0 * wb w + k) 0 = g.getD k 0 := fun k hk => by
      rw [hg]; simp only [List.getD_eq_getElem?_getD, List.getElem?_take, if_pos hk, List.getElem?_drop]
    refine AC.enter Try.func67 rfl (Nat.le_of_ble_eq_true rfl) ?_
    simp only [Try.f67]
    have nx : type_of% @e1 /\ type_of% @e2 /\ type_of% @e4 /\ True := ⟨@e1, ⟨@e2, ⟨@e4, trivial⟩⟩⟩
    refine' stf26771
    all_goals try (exfalso; omega)
    refine AW.loop [1, 2, 3, 7, 8] [3] (fun m st => ∃ k : Nat, st = S21 v w i0 (le (g.drop k)) ((k : Int) - 1) /\ k <= wb w /\ m = k) ?_ ?_
    · exact ⟨_, wb w, by rw [List.drop_of_length_le (by omega)]; rfl, Nat.le_refl _, rfl⟩
    · rintro m st ⟨k, rfl, hk, rfl⟩
      by_cases hk0 : m = 0
      · subst hk0
        have nx : type_of% @e1 /\ type_of% @e2 /\ True := ⟨@e1, ⟨@e2, trivial⟩⟩
        refine' stf26771
        all_goals first | exact ⟨trivial, trivial⟩ | exact ⟨rfl, trivial⟩ | exact ⟨rfl, rfl⟩ | exact ⟨trivial, rfl⟩ | exact ⟨by rw [hgg], trivial⟩ | (exfalso; omega) | trace_state
      · obtain ⟨k, rfl⟩ : ∃ k, m = k + 1 := ⟨m - 1, by omega⟩
        have e5 : (((k + 1 : Nat) : Int) - 1) = (k : Int) := by omega
        have e3 : IntKind.i64.wrap (((i0 * wb w : Nat) : Int) + (k : Int)) = ((i0 * wb w + k : Nat) : Int) := by rw [<- Int.natCast_add]; exact wrap64_id _ (by omega) (by omega)
        have e6 : IntKind.i64.wrap ((k : Int) - 1) = (k : Int) - 1 := wrap64_id _ (by omega) (by omega)
        have e7 := hat k (by omega)
        have hd := le_bound (bytes_drop hby (k + 1))
        have hx := bytes_at hby (k := k) (by omega)
        unfold byte at hx
        have hd2 : le (g.drop (k + 1)) < 2 ^ 56 := by
          have : (2 : Int) ^ (8 * (g.drop (k + 1)).length) <= 2 ^ 56 := by exact_mod_cast Nat.pow_le_pow_right (by decide) (by rw [List.length_drop]; omega)
          omega
        have e8 : IntKind.u64.wrap (le (g.drop (k + 1)) * 256) = le (g.drop (k + 1)) * 256 := wrap_in rfl (by omega) (by show _ < (18446744073709551616 : Int); omega)
        have e9 : IntKind.u64.wrap (g.getD k 0) = g.getD k 0 := wrap_in rfl hx.1 (by show _ < (18446744073709551616 : Int); omega)
        have e10 : IntKind.u64.wrap (le (g.drop (k + 1)) * 256 + g.getD k 0) = le (g.drop k) := by
          rw [le_drop (l := g) (k := k) (by omega), wrap_in rfl (by omega) (by show _ < (18446744073709551616 : Int); omega)]; omega
        have nx : type_of% @e1 /\ type_of% @e2 /\ type_of% @e3 /\ type_of% @e5 /\ type_of% @e6 /\ type_of% @e7 /\ type_of% @e8 /\ type_of% @e9 /\ type_of% @e10 /\ True := ⟨@e1, ⟨@e2, ⟨@e3, ⟨@e5, ⟨@e6, ⟨@e7, ⟨@e8, ⟨@e9, ⟨@e10, trivial⟩⟩⟩⟩⟩⟩⟩⟩⟩
        refine' stf26771
        all_goals try simp (disch := omega) only [NM, Nat.reduceBEq, reduceAdd, reduceMul, Int.reduceToNat, reduceSub, List.set_cons_zero, List.set_cons_succ, e1, e2, e3, e5, e6, e7, e8, e9, e10]
        all_goals first
          | exact ⟨k, by omega, k, rfl, by omega, rfl⟩
          | (exfalso; omega)
          | trace_state
  · have hg : get v w i = 0 := by unfold get; rw [if_neg hi]
    rw [hg]
    refine AC.enter Try.func67 rfl (Nat.le_of_ble_eq_true rfl) ?_
    simp only [Try.f67]
    have nx : True := trivial
    refine' stf26771
    all_goals first | exact ⟨trivial, trivial⟩ | exact ⟨rfl, trivial⟩ | exact ⟨rfl, rfl⟩ | exact ⟨trivial, rfl⟩ | (exfalso; omega) | trace_state
end Go.Proofs.Yteppkbaeacndiaa
namespace Go.Proofs.Yteppkbaeacndiaa
set_option maxRecDepth 20000
open Go Go.Abs Nat
attribute [local irreducible] AW AWL AC FW CW CWr IntKind.wrap
theorem get_lo {v : List Int} : get v 64 0 = lo v := by
  unfold get lo; rw [if_pos (by decide)]; rfl
theorem get_hi {v : List Int} (hl : v.length = 16) : get v 64 1 = hi v := by
  unfold get hi; rw [if_pos (by decide)]
  show le ((v.drop 8).take 8) = _
  rw [List.take_of_length_le (by rw [List.length_drop]; omega)]
theorem MRSplit.NM : type_of% @NSX /\ type_of% @St.keepS.eq_1 /\ type_of% @TY /\ type_of% @SLS /\ type_of% @take16 /\ type_of% @drop16 /\ type_of% @dz /\ type_of% @nums_length :=
  ⟨NSX, St.keepS.eq_1, @TY, @SLS, @take16, @drop16, @dz, @nums_length⟩
open MRSplit
theorem K1RSplit.kp {P : Program} {c : Code} {Q : Exit -> St -> Prop} {st : St} (h : AW P c Q (st.keepS [0, 1, 2])) : AW P c Q st := AW.keepS _ h
theorem K1RSplit.cl {p : Prop} (h : p := by
  first
    | refine AWL.frzG rfl rfl rfl ?_
    | refine AWL.cC (f := 67) cb67 rfl rfl rfl rfl rfl rfl (rget_ok _ hl hb _ _) ?_
  all_goals (apply_rules (newGoals := .nonDependentOnly) only [dep])
  all_goals constructor) : p := h
theorem K1RSplit.sd {p : Prop} (h : p := by first | exact sd3801f5) : p := h
open K1RSplit in
set_option maxHeartbeats 800000 in
theorem rsplit_ok (v : List Int) (hl : v.length = 16) (hb : bytes v) : AC Try.prog 59 [.fagg (nums .u8 v)] (fun r m => r = .agg [.int .u64 (lo v), .int .u64 (hi v)] /\ m = []) := by
  refine AC.enter Try.func59 rfl (Nat.le_of_ble_eq_true rfl) ?_
  simp only [Try.f59]
  have nx : type_of% @hl /\ True := ⟨@hl, trivial⟩
  refine' st14be6b
  all_goals first | exact ⟨trivial, trivial⟩ | exact ⟨rfl, trivial⟩ | exact ⟨rfl, rfl⟩ | exact ⟨trivial, rfl⟩ | exact ⟨by rw [get_lo, get_hi hl], trivial⟩ | (exfalso; omega) | trace_state
end Go.Proofs.Yteppkbaeacndiaa
