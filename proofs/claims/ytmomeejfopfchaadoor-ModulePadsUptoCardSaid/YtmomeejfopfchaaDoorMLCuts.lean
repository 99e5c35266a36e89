/- ModuleCuts. -/
import Derived.Test.YtmomeejfopfchaaDoorDP
import Derived.Test.YtmomeejfopfchaaDoorGTabs
import Derived.Test.YtmomeejfopfchaaDoorGTy
import Derived.Test.YtmomeejfopfchaaDoorCB
import Derived.Test.YtmomeejfopfchaaDoorGMErr
set_option linter.unusedSimpArgs false
set_option linter.unusedVariables false
namespace Go.Proofs.YtmomeejfopfchaaDoor
set_option maxRecDepth 20000
open Go Go.Abs Nat
attribute [local irreducible] AW AWL AC FW CW CWr IntKind.wrap
theorem same_zero : AC Tryd.prog 10 [.agg (modC mod0), .agg modZ] (fun r m => r = .bool true /\ m = []) :=
  (smod_ok mod0 (sm0 0)).wk (.cons (Wk.refl _) (.cons (Wk.agg wkZ) .nil))
def G4 (b L : List Int) (m n : Mod) (f : Int) (k i : Nat) (B : Bool) : St := { n := 105, slots := [(0, .view b.length 1 (nums .u8 b)), (5, .ptr 5 0), (7, .int .i64 (k : Int)), (8, .ptr 8 0), (9, .int .i64 f), (10, .view L.length 1 (nums .i64 L)), (11, .bool B), (12, .int .i64 (i : Int))], mem := [(5, ⟨false, modC m⟩), (8, ⟨false, modC n⟩)] }
theorem mem_snoc {L : List Int} {k : Int} {i : Nat} (h : i < L.length) : decide (k ∈ L.take (i + 1)) = (decide (k ∈ L.take i) || L.getD i 0 == k) := by
  rw [take_snoc _ _ h]
  generalize L.getD i 0 = x
  generalize L.take i = M
  by_cases c : k ∈ M
  · rw [decide_eq_true c, decide_eq_true (List.mem_append_left _ c)]; rfl
  · rw [decide_eq_false c]
    by_cases c2 : x = k
    · rw [beq_iff_eq.2 c2, decide_eq_true (List.mem_append_right _ (by simp [c2]))]; rfl
    · rw [beq_eq_false_iff_ne.2 c2, decide_eq_false]; rfl
      intro h
      rcases List.mem_append.1 h with h | h
      · exact c h
      · exact c2 (List.mem_singleton.1 h).symm
theorem MMLCuts.NM : type_of% @NSX /\ type_of% @St.keepS.eq_1 /\ type_of% @TY /\ type_of% @SLS /\ type_of% @nums_length /\ type_of% @G4.eq_1 /\ type_of% @modC.eq_1 /\ type_of% @modZ.eq_1 :=
  ⟨NSX, St.keepS.eq_1, @TY, @SLS, @nums_length, @G4.eq_1, @modC.eq_1, @modZ.eq_1⟩
open MMLCuts
theorem K1MLCuts.kp {P : Program} {c : Code} {Q : Exit -> St -> Prop} {st : St} (h : AW P c Q (st.keepS [0, 1, 4, 5, 6, 7, 8, 9, 10, 11, 12])) : AW P c Q st := AW.keepS _ h
theorem K1MLCuts.cl {p : Prop} (h : p := by
  first
    | refine AWL.frzG rfl rfl rfl ?_
    | refine AWL.cC (f := 8) cb8 rfl rfl rfl rfl rfl rfl (awake_ok) ?_
    | refine AWL.cC (f := 9) cb9 rfl rfl rfl rfl rfl rfl (hd1) ?_
    | refine AWL.cC (f := 9) cb9 rfl rfl rfl rfl rfl rfl (hd2) ?_
    | refine AWL.cC (f := 10) cb10 rfl rfl rfl rfl rfl rfl (hs0) ?_
    | refine AWL.cC (f := 11) cb11 rfl rfl rfl rfl rfl rfl (hsec) ?_
  all_goals (apply_rules (newGoals := .nonDependentOnly) only [dep])
  all_goals constructor) : p := h
theorem K1MLCuts.sd {p : Prop} (h : p := by first | exact sd1eb496) : p := h
open K1MLCuts in
set_option maxHeartbeats 6400000 in
theorem mcuts_ok (b : List Int) (hb : bytes b) (hl : b.length <= 1048576) (cut : Int) : AC Tryd.prog 4 [.view b.length 1 (nums .u8 b), .int .i64 cut] (fun r m => r = .bool true /\ m = []) := by
  have hd1 := dec_ok b hb
  have hs0 := same_zero
  by_cases he : (decS b).2 ≠ 0
  · rw [dec_err he] at hd1
    generalize (decS b).2 = e at he hd1
    have d1 : (e == 0) = false := beq_eq_false_iff_ne.2 he
    have hd2 : True := trivial
    have hsec : True := trivial
    unfold modC mod0 modZ at hs0
    refine AC.enter Tryd.func4 rfl (Nat.le_of_ble_eq_true rfl) ?_
    simp only [Tryd.f4]
    have nx : type_of% @d1 /\ True := ⟨@d1, trivial⟩
    refine' std2f07a
    all_goals first | exact ⟨trivial, trivial⟩ | exact ⟨rfl, trivial⟩ | exact ⟨rfl, rfl⟩ | exact ⟨trivial, rfl⟩ | (exfalso; omega) | trace_state
  have he := Classical.not_not.1 he
  obtain ⟨hl2, t, hany⟩ := dec_good he
  obtain ⟨hh, h8, ps, l2, hr, hcf⟩ := any_run hb hany
  unfold modC mod0 modZ at hs0
  have hps := secG_run hr hb b.length (by omega) (by omega) rfl
  have hsec := sects_ok b hb (by omega)
  rw [<- hps] at hsec
  have h1ps : ps.length <= b.length + 1 := by rw [hps]; have := secG_len b b.length 8; simp only [List.length_cons]; omega
  rw [he] at hd1
  generalize (decS b).1 = md at hd1 hany hr hcf
  obtain ⟨U, hU⟩ : ∃ U, IntKind.u64.wrap cut = U := ⟨_, rfl⟩
  have hU0 : 0 <= U := by rw [<- hU, IntKind.wrap_u64]; exact Int.emod_nonneg _ (by decide)
  have eul : IntKind.u64.wrap (b.length : Int) = (b.length : Int) := by rw [IntKind.wrap_u64]; omega
  obtain ⟨k, hk⟩ : ∃ k : Nat, U % (b.length : Int) = k := ⟨(U % (b.length : Int)).toNat, by have := Int.emod_nonneg U (show (b.length : Int) ≠ 0 by omega); omega⟩
  have hkl : (k : Int) < b.length := by rw [<- hk]; exact Int.emod_lt_of_pos _ (by omega)
  have et : U.tmod (b.length : Int) = (k : Int) := by rw [Int.tmod_eq_emod_of_nonneg hU0, hk]
  have euk : IntKind.u64.wrap (k : Int) = (k : Int) := by rw [IntKind.wrap_u64]; omega
  have eik : IntKind.i64.wrap (k : Int) = (k : Int) := wrap64_id _ (by omega) (by omega)
  have d0 : ((b.length : Int) == 0) = false := beq_eq_false_iff_ne.2 (by omega)
  have htk : List.take k (nums .u8 b) = nums .u8 (b.take k) := by simp only [nums, List.map_take]
  have hd2 := dec_at k (b.take k) (bytes_take hb k) (by rw [List.length_take]; omega)
  obtain ⟨z, hz⟩ : ∃ z, decS (b.take k) = z := ⟨_, rfl⟩
  rw [hz] at hd2
  obtain ⟨nd, f⟩ := z
  simp only at hd2
  have hlaw : ((k : Int) ∈ ps -> (f = 0 /\ nd.funcs.length = nd.codes.length /\ nd.types.length <= md.types.length) \/ (f = 10 /\ nd = mod0 /\ 0 < md.funcs.length)) /\ ((k : Int) ∉ ps -> f = 10 /\ nd = mod0) := by
    constructor
    · intro hm
      have h8k : 8 <= k := by
        obtain ⟨i, hi, hie⟩ := List.getElem_of_mem hm
        obtain ⟨_, _, _, _, h1, _, _⟩ := run_split hr i hi
        have := run_bnd h1 hb ⟨by omega, by omega⟩
        omega
      rcases cut_at hb hl2 hh h8 hr hcf hm (by omega) h8k with h | ⟨h1, h2⟩
      · rw [hz] at h; exact .inl h
      · rw [hz] at h1; cases h1; exact .inr ⟨rfl, rfl, h2⟩
    · intro hm
      have := cut_in hb hl2 hh h8 hr hm (by omega)
      rw [hz] at this; cases this; exact ⟨rfl, rfl⟩
  clear hh he hl2 hany hr hcf
  refine AC.enter Tryd.func4 rfl (Nat.le_of_ble_eq_true rfl) ?_
  simp only [Tryd.f4]
  have nx : type_of% @hU /\ type_of% @eul /\ type_of% @et /\ type_of% @euk /\ type_of% @eik /\ type_of% @d0 /\ type_of% @htk /\ True := ⟨@hU, ⟨@eul, ⟨@et, ⟨@euk, ⟨@eik, ⟨@d0, ⟨@htk, trivial⟩⟩⟩⟩⟩⟩⟩
  refine' std2f07a
  refine AW.loop [0, 5, 7, 8, 9, 10, 11, 12] [5, 8] (fun m st => ∃ i : Nat, st = G4 b ps md nd f k i (decide ((k : Int) ∈ ps.take i)) /\ i <= ps.length /\ m = ps.length - i) ?_ ?_
  · exact ⟨_, 0, rfl, Nat.zero_le _, rfl⟩
  clear hd1 hd2 hsec hU eul et euk eik d0 htk
  rintro m st ⟨i, rfl, hi, rfl⟩
  by_cases hil : i < ps.length
  · have e7 : IntKind.i64.wrap ((i : Int) + 1) = ((i + 1 : Nat) : Int) := wrap64_id _ (by omega) (by omega)
    have d1 : decide ((i : Int) < (ps.length : Int)) = true := decide_eq_true (by omega)
    have hsn := mem_snoc (k := (k : Int)) hil
    generalize decide ((k : Int) ∈ ps.take i) = B at hsn
    generalize hx : ps.getD i 0 = x at hsn
    cases B
    all_goals
      have nx : type_of% @d1 /\ type_of% @e7 /\ type_of% @hx /\ True := ⟨@d1, ⟨@e7, ⟨@hx, trivial⟩⟩⟩
      refine' std2f07a
    all_goals first
      | exact ⟨ps.length - (i + 1), by omega, i + 1, by rw [G4, hsn]; rfl, by omega, rfl⟩
      | trace_state
  have d1 : decide ((i : Int) < (ps.length : Int)) = false := decide_eq_false (by omega)
  obtain rfl : i = ps.length := by omega
  rw [List.take_length]
  by_cases hm : (k : Int) ∈ ps
  · rw [decide_eq_true hm]
    rcases hlaw.1 hm with ⟨rfl, h2, h3⟩ | ⟨rfl, rfl, h3⟩
    · have f1 : ((nd.funcs.length : Int) == (nd.codes.length : Int)) = true := beq_iff_eq.2 (by omega)
      have f2 : decide ((nd.types.length : Int) <= (md.types.length : Int)) = true := decide_eq_true (by omega)
      have nx : type_of% @d1 /\ type_of% @f1 /\ type_of% @f2 /\ True := ⟨@d1, ⟨@f1, ⟨@f2, trivial⟩⟩⟩
      refine' std2f07a
      all_goals first | exact ⟨trivial, trivial⟩ | exact ⟨rfl, trivial⟩ | exact ⟨rfl, rfl⟩ | exact ⟨trivial, rfl⟩ | (exfalso; omega) | trace_state
    · have f1 : decide ((md.funcs.length : Int) > 0) = true := decide_eq_true (by omega)
      have nx : type_of% @d1 /\ type_of% @f1 /\ True := ⟨@d1, ⟨@f1, trivial⟩⟩
      refine' std2f07a
      all_goals first | exact ⟨trivial, trivial⟩ | exact ⟨rfl, trivial⟩ | exact ⟨rfl, rfl⟩ | exact ⟨trivial, rfl⟩ | (exfalso; omega) | trace_state
  · rw [decide_eq_false hm]
    obtain ⟨rfl, rfl⟩ := hlaw.2 hm
    have nx : type_of% @d1 /\ True := ⟨@d1, trivial⟩
    refine' std2f07a
    all_goals first | exact ⟨trivial, trivial⟩ | exact ⟨rfl, trivial⟩ | exact ⟨rfl, rfl⟩ | exact ⟨trivial, rfl⟩ | (exfalso; omega) | trace_state
end Go.Proofs.YtmomeejfopfchaaDoor
