/- Same, of one module twice. -/
import Derived.Test.YtmomeejfopfchaaDoorDP
import Derived.Test.YtmomeejfopfchaaDoorGTabs
import Derived.Test.YtmomeejfopfchaaDoorGTy
import Derived.Test.YtmomeejfopfchaaDoorCB
import Derived.Test.YtmomeejfopfchaaDoorGSRest
import Derived.Test.YtmomeejfopfchaaDoorGMCut
import Derived.Test.YtmomeejfopfchaaDoorGMT6
set_option linter.unusedSimpArgs false
set_option linter.unusedVariables false
namespace Go.Proofs.YtmomeejfopfchaaDoor
set_option maxRecDepth 20000
open Go Go.Abs Nat
theorem cb24 : callable Tryd.prog 24 = true := by kernel_rfl
attribute [local irreducible] AW AWL AC FW CW CWr IntKind.wrap
def G10a (a : Mod) (k : Nat) : St := { n := 208, slots := [(2, .ptr 2 0), (3, .ptr 3 0), (5, .int .i64 (k : Int))], mem := [(2, ⟨false, modC a⟩), (3, ⟨false, modC a⟩)] }
def G10b (a : Mod) (k : Nat) : St := { n := 208, slots := [(2, .ptr 2 0), (3, .ptr 3 0), (6, .int .i64 (k : Int))], mem := [(2, ⟨false, modC a⟩), (3, ⟨false, modC a⟩)] }
def G10c (a : Mod) (k : Nat) : St := { n := 208, slots := [(2, .ptr 2 0), (3, .ptr 3 0), (7, .int .i64 (k : Int))], mem := [(2, ⟨false, modC a⟩), (3, ⟨false, modC a⟩)] }
def G10d (a : Mod) (k : Nat) : St := { n := 208, slots := [(2, .ptr 2 0), (3, .ptr 3 0), (8, .int .i64 (k : Int))], mem := [(2, ⟨false, modC a⟩), (3, ⟨false, modC a⟩)] }
theorem MSMod.NM : type_of% @NSX /\ type_of% @St.keepS.eq_1 /\ type_of% @TY /\ type_of% @SLS /\ type_of% @nums_length /\ type_of% @G10a.eq_1 /\ type_of% @G10b.eq_1 /\ type_of% @G10c.eq_1 /\ type_of% @G10d.eq_1 /\ type_of% @modC.eq_1 :=
  ⟨NSX, St.keepS.eq_1, @TY, @SLS, @nums_length, @G10a.eq_1, @G10b.eq_1, @G10c.eq_1, @G10d.eq_1, @modC.eq_1⟩
open MSMod
theorem K1SMod.kp {P : Program} {c : Code} {Q : Exit -> St -> Prop} {st : St} (h : AW P c Q (st.keepS [0, 1, 2, 3, 4, 5, 6, 7, 8])) : AW P c Q st := AW.keepS _ h
theorem K1SMod.cl {p : Prop} (h : p := by
  first
    | refine AWL.frzG rfl rfl rfl ?_
    | refine AWL.cC (f := 22) cb22 rfl rfl rfl rfl rfl rfl (ht1) ?_
    | refine AWL.cC (f := 25) cb25 rfl rfl rfl rfl rfl rfl (hc1) ?_
    | refine AWL.cC (f := 23) cb23 rfl rfl rfl rfl rfl rfl (hl1) ?_
    | refine AWL.cC (f := 23) cb23 rfl rfl rfl rfl rfl rfl (hl2) ?_
    | refine AWL.cC (f := 24) cb24 rfl rfl rfl rfl rfl rfl (hs1) ?_
    | refine AWL.cC (f := 26) cb26 rfl rfl rfl rfl rfl rfl (hr1) ?_
  all_goals (apply_rules (newGoals := .nonDependentOnly) only [dep])
  all_goals constructor) : p := h
theorem K1SMod.sd {p : Prop} (h : p := by first | exact sdc55ef2) : p := h
open K1SMod in
set_option maxHeartbeats 6400000 in
theorem smod_ok (a : Mod) (ha : SmM a) : AC Tryd.prog 10 [.agg (modC a), .agg (modC a)] (fun r m => r = .bool true /\ m = []) := by
  have ht1 := samet_self a.funcs ha.fu
  have hl1 := slim_ok a.tables ha.ta
  have hl2 := slim_ok a.mems ha.me
  have hr1 := srest_ok a ha
  unfold modC at hr1
  have hc1 : True := trivial
  have hs1 : True := trivial
  refine AC.enter Tryd.func10 rfl (Nat.le_of_ble_eq_true rfl) ?_
  simp only [Tryd.f10]
  have nx : True := trivial
  refine' stece490
  refine AW.loop [2, 3, 5] [2, 3] (fun m st => ∃ k : Nat, st = G10a a k /\ k <= a.types.length /\ m = a.types.length - k) ?_ ?_
  · exact ⟨_, 0, rfl, Nat.zero_le _, rfl⟩
  rintro m st ⟨k, rfl, hk, rfl⟩
  by_cases hkl : k < a.types.length
  · have e7 : IntKind.i64.wrap ((k : Int) + 1) = ((k + 1 : Nat) : Int) := wrap64_id _ (by have := ha.ty; omega) (by have := ha.ty; omega)
    have hd1 : decide ((k : Int) < (a.types.length : Int)) = true := decide_eq_true (by omega)
    have l1 := flat_load sigC_len ⟨[], []⟩ hkl
    have r1 := flat_room sigC_len ⟨[], []⟩ hkl
    have hx := ha.tys _ (getD_in ⟨[], []⟩ hkl)
    generalize a.types.getD k ⟨[], []⟩ = x at l1 hx
    have hs1 := ssig_ok x hx.1 hx.2
    obtain ⟨i, o⟩ := x
    have l1 : List.take 2 (List.drop (k * 2) (a.types.flatMap sigC)) = [.view i.length 1 (nums .i64 i), .view o.length 1 (nums .i64 o)] := l1
    unfold sigC at hs1
    have nx : type_of% @e7 /\ type_of% @hd1 /\ type_of% @l1 /\ True := ⟨@e7, ⟨@hd1, ⟨@l1, trivial⟩⟩⟩
    refine' stece490
    all_goals first
      | exact ⟨a.types.length - (k + 1), by omega, k + 1, rfl, by omega, rfl⟩
      | trace_state
  have hd1 : decide ((k : Int) < (a.types.length : Int)) = false := decide_eq_false (by omega)
  have nx : type_of% @hd1 /\ True := ⟨@hd1, trivial⟩
  refine' stece490
  clear hd1 hkl hk
  refine AW.loop [2, 3, 6] [2, 3] (fun m st => ∃ k : Nat, st = G10b a k /\ k <= a.imports.length /\ m = a.imports.length - k) ?_ ?_
  · exact ⟨_, 0, rfl, Nat.zero_le _, rfl⟩
  rintro m st ⟨k, rfl, hk, rfl⟩
  by_cases hkl : k < a.imports.length
  · have e7 : IntKind.i64.wrap ((k : Int) + 1) = ((k + 1 : Nat) : Int) := wrap64_id _ (by have := ha.im; omega) (by have := ha.im; omega)
    have hd1 : decide ((k : Int) < (a.imports.length : Int)) = true := decide_eq_true (by omega)
    have l1 := flat_load impC_len ⟨[], [], 0⟩ hkl
    have r1 := flat_room impC_len ⟨[], [], 0⟩ hkl
    generalize a.imports.getD k ⟨[], [], 0⟩ = x at l1
    obtain ⟨i, o, t⟩ := x
    have l1 : List.take 3 (List.drop (k * 3) (a.imports.flatMap impC)) = [.str i, .str o, .int .i64 t] := l1
    have nx : type_of% @e7 /\ type_of% @hd1 /\ type_of% @l1 /\ type_of% @eqL_nil /\ type_of% @eqL_cons /\ type_of% @eqS_int /\ type_of% @eqS_str /\ type_of% @beq_self_eq_true.{0} /\ type_of% @Bool.and_self /\ type_of% @Bool.not_true /\ True := ⟨@e7, ⟨@hd1, ⟨@l1, ⟨@eqL_nil, ⟨@eqL_cons, ⟨@eqS_int, ⟨@eqS_str, ⟨@beq_self_eq_true.{0}, ⟨@Bool.and_self, ⟨@Bool.not_true, trivial⟩⟩⟩⟩⟩⟩⟩⟩⟩⟩
    refine' st027227
    all_goals first
      | exact ⟨a.imports.length - (k + 1), by omega, k + 1, rfl, by omega, rfl⟩
      | trace_state
  have hd1 : decide ((k : Int) < (a.imports.length : Int)) = false := decide_eq_false (by omega)
  have nx : type_of% @hd1 /\ True := ⟨@hd1, trivial⟩
  refine' stece490
  clear hd1 hkl hk
  refine AW.loop [2, 3, 7] [2, 3] (fun m st => ∃ k : Nat, st = G10c a k /\ k <= a.globals.length /\ m = a.globals.length - k) ?_ ?_
  · exact ⟨_, 0, rfl, Nat.zero_le _, rfl⟩
  rintro m st ⟨k, rfl, hk, rfl⟩
  by_cases hkl : k < a.globals.length
  · have e7 : IntKind.i64.wrap ((k : Int) + 1) = ((k + 1 : Nat) : Int) := wrap64_id _ (by have := ha.gl; omega) (by have := ha.gl; omega)
    have hd1 : decide ((k : Int) < (a.globals.length : Int)) = true := decide_eq_true (by omega)
    have l1 := flat_drop globC_len ⟨0, false, []⟩ a.globals k hkl
    have hx := ha.gls _ (getD_in ⟨0, false, []⟩ hkl)
    generalize (a.globals.drop (k + 1)).flatMap globC = R at l1
    generalize a.globals.getD k ⟨0, false, []⟩ = x at l1 hx
    obtain ⟨t, mu, c⟩ := x
    have l1 : List.drop (k * 3) (a.globals.flatMap globC) = .int .i64 t :: .bool mu :: .view c.length 6 (codeC c) :: R := l1
    have hc1 := same_self c hx
    have nx : type_of% @e7 /\ type_of% @hd1 /\ type_of% @l1 /\ type_of% @beq_self_eq_true.{0} /\ type_of% @Bool.not_true /\ True := ⟨@e7, ⟨@hd1, ⟨@l1, ⟨@beq_self_eq_true.{0}, ⟨@Bool.not_true, trivial⟩⟩⟩⟩⟩
    refine' st027227
    all_goals first
      | exact ⟨a.globals.length - (k + 1), by omega, k + 1, rfl, by omega, rfl⟩
      | trace_state
  have hd1 : decide ((k : Int) < (a.globals.length : Int)) = false := decide_eq_false (by omega)
  have nx : type_of% @hd1 /\ True := ⟨@hd1, trivial⟩
  refine' stece490
  clear hd1 hkl hk
  refine AW.loop [2, 3, 8] [2, 3] (fun m st => ∃ k : Nat, st = G10d a k /\ k <= a.exports.length /\ m = a.exports.length - k) ?_ ?_
  · exact ⟨_, 0, rfl, Nat.zero_le _, rfl⟩
  rintro m st ⟨k, rfl, hk, rfl⟩
  by_cases hkl : k < a.exports.length
  · have e7 : IntKind.i64.wrap ((k : Int) + 1) = ((k + 1 : Nat) : Int) := wrap64_id _ (by have := ha.ex; omega) (by have := ha.ex; omega)
    have hd1 : decide ((k : Int) < (a.exports.length : Int)) = true := decide_eq_true (by omega)
    have l1 := flat_load expC_len ⟨[], 0, 0⟩ hkl
    have r1 := flat_room expC_len ⟨[], 0, 0⟩ hkl
    generalize a.exports.getD k ⟨[], 0, 0⟩ = x at l1
    obtain ⟨i, o, t⟩ := x
    have l1 : List.take 3 (List.drop (k * 3) (a.exports.flatMap expC)) = [.str i, .int .i64 o, .int .i64 t] := l1
    have nx : type_of% @e7 /\ type_of% @hd1 /\ type_of% @l1 /\ type_of% @eqL_nil /\ type_of% @eqL_cons /\ type_of% @eqS_int /\ type_of% @eqS_str /\ type_of% @beq_self_eq_true.{0} /\ type_of% @Bool.and_self /\ type_of% @Bool.not_true /\ True := ⟨@e7, ⟨@hd1, ⟨@l1, ⟨@eqL_nil, ⟨@eqL_cons, ⟨@eqS_int, ⟨@eqS_str, ⟨@beq_self_eq_true.{0}, ⟨@Bool.and_self, ⟨@Bool.not_true, trivial⟩⟩⟩⟩⟩⟩⟩⟩⟩⟩
    refine' st027227
    all_goals first
      | exact ⟨a.exports.length - (k + 1), by omega, k + 1, rfl, by omega, rfl⟩
      | trace_state
  have hd1 : decide ((k : Int) < (a.exports.length : Int)) = false := decide_eq_false (by omega)
  have nx : type_of% @hd1 /\ True := ⟨@hd1, trivial⟩
  refine' stece490
  all_goals first | exact ⟨trivial, trivial⟩ | exact ⟨rfl, trivial⟩ | exact ⟨rfl, rfl⟩ | exact ⟨trivial, rfl⟩ | (exfalso; omega) | trace_state
end Go.Proofs.YtmomeejfopfchaaDoor
namespace Go.Proofs.YtmomeejfopfchaaDoor
set_option maxRecDepth 20000
open Go Go.Abs Nat
attribute [local irreducible] AW AWL AC FW CW CWr IntKind.wrap
theorem MMDok.NM : type_of% @NSX /\ type_of% @St.keepS.eq_1 /\ type_of% @TY /\ type_of% @SLS /\ type_of% @nums_length :=
  ⟨NSX, St.keepS.eq_1, @TY, @SLS, @nums_length⟩
open MMDok
theorem K1MDok.kp {P : Program} {c : Code} {Q : Exit -> St -> Prop} {st : St} (h : AW P c Q (st.keepS [0, 2, 3, 4, 6, 7, 8, 9, 21, 22, 23])) : AW P c Q st := AW.keepS _ h
theorem K1MDok.sd {p : Prop} (h : p := by first | exact sd1eb496) : p := h
open K1MDok in
set_option maxHeartbeats 1600000 in
theorem dec_long (b : List Int) (hl : ¬ b.length <= 16384) : AC Tryd.prog 9 [.view b.length 1 (nums .u8 b)] (fun v m => m = [] /\ v = .tup [.agg modZ, .int .i64 4]) := by
  have d12 : decide ((b.length : Int) > 16384) = true := decide_eq_true (by omega)
  refine AC.enter Tryd.func9 rfl (Nat.le_of_ble_eq_true rfl) ?_
  simp only [Tryd.f9]
  have nx : type_of% @d12 /\ True := ⟨@d12, trivial⟩
  refine' st817827
  all_goals first
    | exact ⟨trivial, rfl⟩
    | exact ⟨rfl, rfl⟩
    | trace_state
theorem dec_ok (b : List Int) (hb : bytes b) : AC Tryd.prog 9 [.view b.length 1 (nums .u8 b)] (fun v m => v = .tup [.agg (modC (decS b).1), .int .i64 (decS b).2] /\ m = []) := by
  by_cases hl : b.length <= 16384
  · refine (dec_raw b hb hl).out fun v mm h => ?_
    obtain ⟨rfl, h⟩ := h
    rw [show decS b = match anyT b with
      | .ok (m, _) => (m, 0)
      | .error (e, _) => (mod0, e) from if_neg (by omega)]
    rcases hx : anyT b with ⟨e, t⟩ | ⟨m, t⟩
    all_goals rw [hx] at h
    · have h : v = .tup [.agg modZ, .int .i64 e] := h
      subst h
      exact ⟨_, _, ⟨rfl, rfl⟩, fun S w w' u ho => ho.wk (Wk.tup (.cons (Wk.agg wkZ) (WkL.refl _)))⟩
    · have h : v = .tup [.agg (modC m), .int .i64 0] := h
      subst h
      exact ⟨_, _, ⟨rfl, rfl⟩, fun _ _ _ _ ho => ho⟩
  · refine (dec_long b hl).out fun v mm h => ?_
    obtain ⟨rfl, rfl⟩ := h
    rw [show decS b = (mod0, 4) from if_pos (by omega)]
    exact ⟨_, _, ⟨rfl, rfl⟩, fun S w w' u ho => ho.wk (Wk.tup (.cons (Wk.agg wkZ) (WkL.refl _)))⟩
theorem dec_at (n : Nat) (b : List Int) (hb : bytes b) (hn : n = b.length) : AC Tryd.prog 9 [.view n 1 (nums .u8 b)] (fun v m => v = .tup [.agg (modC (decS b).1), .int .i64 (decS b).2] /\ m = []) := by
  subst hn; exact dec_ok b hb
end Go.Proofs.YtmomeejfopfchaaDoor
namespace Go.Proofs.YtmomeejfopfchaaDoor
set_option maxRecDepth 20000
open Go Go.Abs Nat
attribute [local irreducible] AW AWL AC FW CW CWr IntKind.wrap
theorem byte_ofs : ∀ l : List Int, (l.all fun x => decide (0 <= x /\ x <= 255)) = true -> bytes l := by
  intro l h x hx
  have := of_decide_eq_true (List.all_eq_true.1 h x hx)
  exact this
def aw2 : Mod := { mod0 with start := -1, types := [⟨[], []⟩], funcs := [0], codes := [⟨[], [⟨11, 0, 0, 0, 0, []⟩]⟩] }
theorem MMAwake.NM : type_of% @NSX /\ type_of% @St.keepS.eq_1 /\ type_of% @TY /\ type_of% @SLS /\ type_of% @nums_length :=
  ⟨NSX, St.keepS.eq_1, @TY, @SLS, @nums_length⟩
open MMAwake
theorem K1MAwake.kp {P : Program} {c : Code} {Q : Exit -> St -> Prop} {st : St} (h : AW P c Q (st.keepS [0, 1, 2, 3, 4, 6])) : AW P c Q st := AW.keepS _ h
theorem K1MAwake.cl {p : Prop} (h : p := by
  first
    | refine AWL.frzG rfl rfl rfl ?_
    | refine AWL.cC (f := 9) cb9 rfl rfl rfl rfl rfl rfl (hr1) ?_
    | refine AWL.cC (f := 9) cb9 rfl rfl rfl rfl rfl rfl (hr2) ?_
    | refine AWL.cC (f := 9) cb9 rfl rfl rfl rfl rfl rfl (hr3) ?_
  all_goals (apply_rules (newGoals := .nonDependentOnly) only [dep])
  all_goals constructor) : p := h
open K1MAwake in
set_option maxHeartbeats 3200000 in
theorem awake_ok : AC Tryd.prog 8 [] (fun r m => r = .bool true /\ m = []) := by
  have hr1 := dec_ok [0, 97, 115, 109, 1, 0, 0, 0] (byte_ofs _ (by decide))
  rw [show decS [0, 97, 115, 109, 1, 0, 0, 0] = ({ mod0 with start := -1 }, 0) by decide +kernel] at hr1
  have hr2 := dec_ok [0, 97, 115, 109, 1, 0, 0, 0, 1, 4, 1, 96, 0, 0, 3, 2, 1, 0, 10, 4, 1, 2, 0, 11] (byte_ofs _ (by decide))
  rw [show decS [0, 97, 115, 109, 1, 0, 0, 0, 1, 4, 1, 96, 0, 0, 3, 2, 1, 0, 10, 4, 1, 2, 0, 11] = (aw2, 0) by decide +kernel] at hr2
  have hr3 := dec_ok [0, 97, 115, 109, 1, 0, 0, 0, 1, 5, 1, 96, 1, 125, 0] (byte_ofs _ (by decide))
  rw [show decS [0, 97, 115, 109, 1, 0, 0, 0, 1, 5, 1, 96, 1, 125, 0] = (mod0, 11) by decide +kernel] at hr3
  have hr1 : AC Tryd.prog 9 [.view 8 1 [.int .u8 0, .int .u8 97, .int .u8 115, .int .u8 109, .int .u8 1, .int .u8 0, .int .u8 0, .int .u8 0]] (fun v m => v = .tup [.agg [.view 0 2 [], .view 0 3 [], .view 0 1 [], .view 0 2 [], .view 0 2 [], .view 0 3 [], .view 0 3 [], .int .i64 (-1), .view 0 2 [], .view 0 2 [], .view 0 2 []], .int .i64 0] /\ m = []) := hr1
  have hr2 : AC Tryd.prog 9 [.view 24 1 [.int .u8 0, .int .u8 97, .int .u8 115, .int .u8 109, .int .u8 1, .int .u8 0, .int .u8 0, .int .u8 0, .int .u8 1, .int .u8 4, .int .u8 1, .int .u8 96, .int .u8 0, .int .u8 0, .int .u8 3, .int .u8 2, .int .u8 1, .int .u8 0, .int .u8 10, .int .u8 4, .int .u8 1, .int .u8 2, .int .u8 0, .int .u8 11]] (fun v m => v = .tup [.agg [.view 1 2 [.view 0 1 [], .view 0 1 []], .view 0 3 [], .view 1 1 [.int .i64 0], .view 0 2 [], .view 0 2 [], .view 0 3 [], .view 0 3 [], .int .i64 (-1), .view 0 2 [], .view 1 2 [.view 0 1 [], .view 1 6 [.int .i64 11, .int .i64 0, .int .i64 0, .int .u64 0, .int .u64 0, .view 0 1 []]], .view 0 2 []], .int .i64 0] /\ m = []) := hr2
  have hr3 : AC Tryd.prog 9 [.view 15 1 [.int .u8 0, .int .u8 97, .int .u8 115, .int .u8 109, .int .u8 1, .int .u8 0, .int .u8 0, .int .u8 0, .int .u8 1, .int .u8 5, .int .u8 1, .int .u8 96, .int .u8 1, .int .u8 125, .int .u8 0]] (fun v m => v = .tup [.agg [.view 0 2 [], .view 0 3 [], .view 0 1 [], .view 0 2 [], .view 0 2 [], .view 0 3 [], .view 0 3 [], .int .i64 0, .view 0 2 [], .view 0 2 [], .view 0 2 []], .int .i64 11] /\ m = []) := hr3
  refine AC.enter Tryd.func8 rfl (Nat.le_of_ble_eq_true rfl) ?_
  simp only [Tryd.f8]
  have nx : True := trivial
  refine' ste4f5d7
  all_goals first
    | exact ⟨rfl, trivial⟩
    | (refine ⟨congrArg V.bool ?_, trivial⟩; rfl)
    | trace_state
end Go.Proofs.YtmomeejfopfchaaDoor
namespace Go.Proofs.YtmomeejfopfchaaDoor
set_option maxRecDepth 20000
open Go Go.Abs Nat
attribute [local irreducible] AW AWL AC FW CW CWr IntKind.wrap
def G11o (b l : List Int) (at_ : Int) : St := { n := 49, slots := [(0, .view b.length 1 (nums .u8 b)), (3, .ref 3 0 l.length 1), (4, .int .i64 at_)], mem := [(3, ⟨true, nums .i64 l⟩)] }
def G11i (b l : List Int) (at_ n : Int) (sh : Nat) : St := { n := 49, slots := [(0, .view b.length 1 (nums .u8 b)), (3, .ref 3 0 l.length 1), (4, .int .i64 at_), (5, .int .i64 n), (6, .int .i64 (sh : Int))], mem := [(3, ⟨true, nums .i64 l⟩)] }
theorem MMSecs.NM : type_of% @NSX /\ type_of% @St.keepS.eq_1 /\ type_of% @TY /\ type_of% @SLS /\ type_of% @nums_length /\ type_of% @G11o.eq_1 /\ type_of% @G11i.eq_1 :=
  ⟨NSX, St.keepS.eq_1, @TY, @SLS, @nums_length, @G11o.eq_1, @G11i.eq_1⟩
open MMSecs
theorem K1MSecs.kp {P : Program} {c : Code} {Q : Exit -> St -> Prop} {st : St} (h : AW P c Q (st.keepS [0, 2, 3, 4, 5, 6, 7])) : AW P c Q st := AW.keepS _ h
theorem K1MSecs.rt {p : Prop} (h : p := by
  first | (refine AW.frzRet 2 rfl rfl ?_; (try (conv => arg -1; simp (disch := omega) only [NM, Nat.reduceBEq, reduceAdd, reduceMul, Int.reduceToNat, reduceSub, List.set_cons_zero, List.set_cons_succ, nx])))
  all_goals (apply_rules (newGoals := .nonDependentOnly) only [dep])
  all_goals constructor) : p := h
theorem K1MSecs.sd {p : Prop} (h : p := by first | exact sd1eb496) : p := h
open K1MSecs in
set_option maxHeartbeats 6400000 in
theorem sects_ok (b : List Int) (hb : bytes b) (hl : b.length <= 100000000) : AC Tryd.prog 11 [.view b.length 1 (nums .u8 b)] (fun r m => r = .view (8 :: secG b b.length 8).length 1 (nums .i64 (8 :: secG b b.length 8)) /\ m = []) := by
  obtain ⟨L, hL⟩ : ∃ L, 8 :: secG b b.length 8 = L := ⟨_, rfl⟩
  rw [hL]
  refine AC.enter Tryd.func11 rfl (Nat.le_of_ble_eq_true rfl) ?_
  simp only [Tryd.f11]
  have nx : True := trivial
  refine' st11cacc
  refine AW.loop [0, 3, 4] [3] (fun m st => ∃ (f : Nat) (l : List Int) (p : Int), st = G11o b l p /\ 0 <= p /\ p <= 1000000000000 /\ l.length + f <= b.length + 1 /\ (b.length : Int) - p <= f /\ l ++ secG b f p = L /\ f = m) ?_ ?_
  · exact ⟨_, b.length, [8], 8, rfl, by omega, by omega, by simp; omega, by omega, hL, rfl⟩
  clear hL
  rintro m st ⟨f, l, p, rfl, hp, hp2, hlf, hf, hL, rfl⟩
  have hcut : List.take l.length (nums .i64 l) = nums .i64 l := List.take_of_length_le (by rw [nums_length]; omega)
  by_cases c : p < b.length
  · rcases f with _ | f
    · omega
    rw [secG, if_pos c] at hL
    have d1 : decide (p < (b.length : Int)) = true := decide_eq_true c
    have e1 : IntKind.i64.wrap (p + 1) = p + 1 := wrap64_id _ (by omega) (by omega)
    obtain ⟨A, hA⟩ : ∃ A, numG b 5 0 0 (p + 1) = A := ⟨_, rfl⟩
    rw [hA] at hL
    have nx : type_of% @d1 /\ type_of% @e1 /\ True := ⟨@d1, ⟨@e1, trivial⟩⟩
    refine' st11cacc
    obtain ⟨q0, hq0⟩ : ∃ q0 : Nat, p + 1 = q0 := ⟨(p + 1).toNat, by omega⟩
    rw [hq0] at hA ⊢
    refine AW.loop [0, 3, 4, 5, 6] [3] (fun m st => ∃ (g q : Nat) (n : Int), st = G11i b l q n (35 - 7 * g) /\ p < (q : Int) /\ q <= b.length /\ g <= 5 /\ 0 <= n /\ n < 2 ^ (35 - 7 * g) /\ numG b g (35 - 7 * g) n q = A /\ g = m) ?_ ?_
    · exact ⟨_, 5, q0, 0, rfl, by omega, by omega, by omega, by omega, by decide, hA, rfl⟩
    clear hA hq0
    rintro m st ⟨g, q, n, rfl, hq, hq2, hg, hn, hn2, hA, rfl⟩
    have hn3 : n < 34359738368 := Int.lt_of_lt_of_le hn2 (by
      have : (2 : Int) ^ (35 - 7 * g) <= 2 ^ 35 := by exact_mod_cast Nat.pow_le_pow_right (by decide) (by omega)
      exact this)
    rcases g with _ | g
    · rw [numG] at hA
      subst hA
      have e2 : IntKind.i64.wrap ((q : Int) + n) = (q : Int) + n := wrap64_id _ (by omega) (by omega)
      obtain ⟨B, hB⟩ : ∃ B, decide ((q : Int) < (b.length : Int)) = B := ⟨_, rfl⟩
      cases B
      all_goals
        have nx : type_of% @hB /\ type_of% @e2 /\ type_of% @hcut /\ True := ⟨@hB, ⟨@e2, ⟨@hcut, trivial⟩⟩⟩
        refine' st11cacc
      all_goals first
        | exact ⟨f, by omega, f, l ++ [(q : Int) + n], (q : Int) + n, by rw [G11o, List.length_append]; simp only [nums, List.map_append, List.map_cons, List.map_nil]; rfl, by omega, by omega, by rw [List.length_append]; simp only [List.length_cons, List.length_nil]; omega, by omega, by rw [List.append_assoc]; exact hL, rfl⟩
        | trace_state
    obtain ⟨S, hS⟩ : ∃ S, 35 - 7 * (g + 1) = S := ⟨_, rfl⟩
    have hS7 : 35 - 7 * g = S + 7 := by omega
    have hS28 : S <= 28 := by omega
    rw [hS] at hA hn2 ⊢
    have d35 : decide ((S : Int) < 35) = true := decide_eq_true (by omega)
    by_cases hq3 : q < b.length
    case neg =>
      rw [numG, if_neg (by omega)] at hA
      subst hA
      have e2 : IntKind.i64.wrap ((q : Int) + n) = (q : Int) + n := wrap64_id _ (by omega) (by omega)
      have hB : decide ((q : Int) < (b.length : Int)) = false := decide_eq_false (by omega)
      have nx : type_of% @hB /\ type_of% @e2 /\ type_of% @hcut /\ type_of% @d35 /\ True := ⟨@hB, ⟨@e2, ⟨@hcut, ⟨@d35, trivial⟩⟩⟩⟩
      refine' st11cacc
      all_goals first
        | exact ⟨f, by omega, f, l ++ [(q : Int) + n], (q : Int) + n, by rw [G11o, List.length_append]; simp only [nums, List.map_append, List.map_cons, List.map_nil]; rfl, by omega, by omega, by rw [List.length_append]; simp only [List.length_cons, List.length_nil]; omega, by omega, by rw [List.append_assoc]; exact hL, rfl⟩
        | trace_state
    have hB : decide ((q : Int) < (b.length : Int)) = true := decide_eq_true (by omega)
    rw [numG, if_pos (by omega), Int.toNat_natCast] at hA
    have hx := hb _ (getD_mem hq3)
    generalize hxe : b.getD q 0 = x at hA hx
    obtain ⟨hx0, hx1⟩ := hx
    have hm := pow_lt_mul hn hn2 (low := x % 128) (m := 7) (by omega) (by have : x % 128 < 128 := Int.emod_lt_of_pos _ (by decide); exact this)
    have hp7 : (2 : Int) ^ (S + 7) <= 2 ^ 35 := by exact_mod_cast Nat.pow_le_pow_right (by decide) (by omega)
    have hp8 : (2 : Int) ^ 35 = 34359738368 := by decide
    have hm0 : 0 <= x % 128 * 2 ^ S := Int.mul_nonneg (by omega) (Int.pow_nonneg (by decide))
    have ex : IntKind.i64.wrap x = x := wrap64_id _ (by omega) (by omega)
    have et : x.tmod 128 = x % 128 := Int.tmod_eq_emod_of_nonneg hx0
    have es1 : IntKind.u64.wrap (S : Int) = (S : Int) := by rw [IntKind.wrap_u64]; omega
    have es : IntKind.i64.wrap (x % 128 * 2 ^ S) = x % 128 * 2 ^ S := wrap64_id _ (by omega) (by omega)
    have emn : min S IntKind.i64.bits = S := Nat.min_eq_left (Nat.le_trans hS28 (by decide))
    have emn2 : min S 64 = S := Nat.min_eq_left (by omega)
    obtain ⟨N, hN⟩ : ∃ N, n + x % 128 * 2 ^ S = N := ⟨_, rfl⟩
    rw [hN] at hm hA
    have en : IntKind.i64.wrap (n + x % 128 * 2 ^ S) = N := by rw [hN]; exact wrap64_id _ (by omega) (by omega)
    have eq1 : IntKind.i64.wrap ((q : Int) + 1) = ((q + 1 : Nat) : Int) := wrap64_id _ (by omega) (by omega)
    have esh : IntKind.i64.wrap ((S : Int) + 7) = ((S + 7 : Nat) : Int) := wrap64_id _ (by omega) (by omega)
    have e2 : IntKind.i64.wrap (((q + 1 : Nat) : Int) + N) = ((q + 1 : Nat) : Int) + N := wrap64_id _ (by omega) (by omega)
    by_cases hx128 : x < 128
    · rw [if_pos hx128] at hA
      have hA : (N, ((q + 1 : Nat) : Int)) = A := hA
      subst hA
      have d128 : decide (x < 128) = true := decide_eq_true hx128
      have nx : type_of% @hB /\ type_of% @d35 /\ type_of% @hxe /\ type_of% @ex /\ type_of% @et /\ type_of% @es1 /\ type_of% @es /\ type_of% @emn /\ type_of% @emn2 /\ type_of% @en /\ type_of% @eq1 /\ type_of% @esh /\ type_of% @d128 /\ type_of% @e2 /\ type_of% @hcut /\ True := ⟨@hB, ⟨@d35, ⟨@hxe, ⟨@ex, ⟨@et, ⟨@es1, ⟨@es, ⟨@emn, ⟨@emn2, ⟨@en, ⟨@eq1, ⟨@esh, ⟨@d128, ⟨@e2, ⟨@hcut, trivial⟩⟩⟩⟩⟩⟩⟩⟩⟩⟩⟩⟩⟩⟩⟩
      refine' st11cacc
      all_goals first
        | exact ⟨f, by omega, f, l ++ [((q + 1 : Nat) : Int) + N], ((q + 1 : Nat) : Int) + N, by rw [G11o, List.length_append]; simp only [nums, List.map_append, List.map_cons, List.map_nil]; rfl, by omega, by omega, by rw [List.length_append]; simp only [List.length_cons, List.length_nil]; omega, by omega, by rw [List.append_assoc]; exact hL, rfl⟩
        | trace_state
    · rw [if_neg hx128] at hA
      have d128 : decide (x < 128) = false := decide_eq_false hx128
      have hA : numG b g (S + 7) N ((q + 1 : Nat) : Int) = A := hA
      have nx : type_of% @hB /\ type_of% @d35 /\ type_of% @hxe /\ type_of% @ex /\ type_of% @et /\ type_of% @es1 /\ type_of% @es /\ type_of% @emn /\ type_of% @emn2 /\ type_of% @en /\ type_of% @eq1 /\ type_of% @esh /\ type_of% @d128 /\ True := ⟨@hB, ⟨@d35, ⟨@hxe, ⟨@ex, ⟨@et, ⟨@es1, ⟨@es, ⟨@emn, ⟨@emn2, ⟨@en, ⟨@eq1, ⟨@esh, ⟨@d128, trivial⟩⟩⟩⟩⟩⟩⟩⟩⟩⟩⟩⟩⟩
      refine' st11cacc
      all_goals first
        | exact ⟨g, by omega, g, q + 1, N, by rw [hS7]; rfl, by omega, by omega, by omega, by omega, by rw [hS7]; omega, by rw [hS7]; exact hA, rfl⟩
        | trace_state
  · have d1 : decide (p < (b.length : Int)) = false := decide_eq_false c
    have hL : l = L := by
      rw [<- hL]
      rcases f with _ | f
      · simp [secG]
      · rw [secG, if_neg c]; simp
    subst hL
    have nx : type_of% @d1 /\ type_of% @hcut /\ True := ⟨@d1, ⟨@hcut, trivial⟩⟩
    refine' st11cacc
    all_goals first | exact ⟨trivial, trivial⟩ | exact ⟨rfl, trivial⟩ | exact ⟨rfl, rfl⟩ | exact ⟨trivial, rfl⟩ | (exfalso; omega) | trace_state
end Go.Proofs.YtmomeejfopfchaaDoor
namespace Go.Proofs.YtmomeejfopfchaaDoor
set_option maxRecDepth 20000
open Go Go.Abs
def Nz {α : Type} (x : Res α) : Prop := ∀ e t, x = .error (e, t) -> e ≠ 0
theorem nz_ok {α : Type} (a : α) (t : Int) : Nz (.ok (a, t)) := fun e t h => by cases h
theorem nz_e {α : Type} {e : Int} (h : e ≠ 0) (t : Int) : Nz (.error (e, t) : Res α) := fun e' t' h' => by cases h'; exact h
theorem nz_bnd {α β : Type} {x : Res α} {f : α -> Int -> Res β} (h : Nz x) (hf : ∀ a t, Nz (f a t)) : Nz (bnd x f) := by
  rcases x with ⟨e, t⟩ | ⟨a, t⟩
  · rw [bnd_err]; exact nz_e (h e t rfl) t
  · rw [bnd_ok]; exact hf a t
theorem nz_ite {α : Type} {c : Prop} [Decidable c] {x y : Res α} (hx : Nz x) (hy : Nz y) : Nz (if c then x else y) := by
  split
  · exact hx
  · exact hy
theorem nz_must {α : Type} {c : Prop} [Decidable c] {x : Int -> Res α} {t : Int} (h : ∀ t, Nz (x t)) : Nz (mustT c x t) := nz_ite (h t) (nz_e (by decide) t)
theorem nz_byte (xs : List Int) (p : Int) : Nz (byteT xs p) := nz_ite (nz_e (by decide) p) (nz_ok _ _)
theorem nz_nm (xs : List Int) (p : Int) : Nz (nmT xs p) := nz_ite (nz_e (by decide) p) (nz_ok _ _)
theorem nz_cnt (xs : List Int) (m p : Int) : Nz (cntT xs m p) := nz_bnd (nz_nm xs p) fun _ t => nz_ite (nz_e (by decide) t) (nz_ok _ _)
theorem nz_part (xs : List Int) (p : Int) : Nz (partT xs p) := nz_bnd (nz_nm xs p) fun _ t => nz_ite (nz_e (by decide) _) (nz_ok _ _)
theorem nz_bytes (xs : List Int) (p : Int) : Nz (bytesT xs p) := nz_bnd (nz_part xs p) fun _ _ => nz_ok _ _
theorem nz_name (xs : List Int) (p : Int) : Nz (nameT xs p) := nz_bnd (nz_bytes xs p) fun _ _ => nz_ite (nz_ok _ _) (nz_e (by decide) _)
theorem nz_kind (xs : List Int) (p : Int) : Nz (kindT xs p) := nz_bnd (nz_byte xs p) fun _ _ => nz_ite (nz_ok _ _) (nz_ite (nz_e (by decide) _) (nz_e (by decide) _))
theorem nz_lim (xs : List Int) (m p : Int) : Nz (limT xs m p) := nz_bnd (nz_byte xs p) fun _ _ => nz_ite (nz_e (by decide) _) (nz_bnd (nz_cnt _ _ _) fun _ _ => nz_ite (nz_bnd (nz_nm _ _) fun _ _ => nz_ok _ _) (nz_ok _ _))
theorem nz_expr (xs : List Int) (p : Int) : Nz (exprT xs p) := by
  unfold exprT
  split
  · rename_i c; exact nz_e c p
  · exact nz_ok _ _
theorem nz_row {α : Type} {one : Int -> Res α} (h : ∀ t, Nz (one t)) : ∀ (n : Nat) (p : Int), Nz (rowT one n p)
  | 0, p => nz_ok _ _
  | n + 1, p => nz_bnd (h p) fun _ t => nz_bnd (nz_row h n t) fun _ _ => nz_ok _ _
theorem nz_rows {α : Type} {xs : List Int} {m : Int} {one : Int -> Res α} (h : ∀ t, Nz (one t)) (p : Int) : Nz (rowsT xs m one p) := nz_bnd (nz_cnt _ _ _) fun _ _ => nz_row h _ _
theorem nz_in {α : Type} {xs : List Int} {f : List Int -> Int -> Res α} (h : ∀ ys p, Nz (f ys p)) (s t : Int) : Nz (inT xs f s t) := by
  intro e q hq
  unfold inT at hq
  rcases hx : f (xs.take t.toNat) s with ⟨e', q'⟩ | ⟨a, q'⟩
  · rw [hx] at hq; cases hq; exact h _ _ _ _ hx
  · rw [hx] at hq; cases hq
theorem nz_runs (ys : List Int) : ∀ (n : Nat) (l : List Int) (p : Int), Nz (runsT ys n l p)
  | 0, l, p => nz_ok _ _
  | n + 1, l, p => nz_bnd (nz_cnt _ _ _) fun _ _ => nz_bnd (nz_kind _ _) fun _ _ => nz_runs ys n _ _
theorem nz_body (ys : List Int) (p : Int) : Nz (bodyT ys p) := nz_bnd (nz_nm _ _) fun _ _ => nz_bnd (nz_runs _ _ _ _) fun _ _ => nz_bnd (nz_expr _ _) fun _ _ => nz_must fun _ => nz_ok _ _
theorem nz_sec (ys : List Int) (id : Int) (m : Mod) (p : Int) : Nz (secT ys id m p) :=
  nz_ite (nz_bnd (nz_rows (fun t => nz_bnd (nz_byte _ _) fun _ _ => nz_must fun _ => nz_bnd (nz_rows (nz_kind ys) _) fun _ _ => nz_bnd (nz_rows (nz_kind ys) _) fun _ _ => nz_ok _ _) _) fun _ _ => nz_ok _ _)
  (nz_ite (nz_bnd (nz_rows (fun t => nz_bnd (nz_name _ _) fun _ _ => nz_bnd (nz_name _ _) fun _ _ => nz_bnd (nz_byte _ _) fun _ _ => nz_must fun _ => nz_bnd (nz_nm _ _) fun _ _ => nz_ok _ _) _) fun _ _ => nz_ok _ _)
  (nz_ite (nz_bnd (nz_rows (nz_nm ys) _) fun _ _ => nz_ok _ _)
  (nz_ite (nz_bnd (nz_rows (fun t => nz_bnd (nz_byte _ _) fun _ _ => nz_must fun _ => nz_lim _ _ _) _) fun _ _ => nz_ok _ _)
  (nz_ite (nz_bnd (nz_rows (fun t => nz_lim _ _ _) _) fun _ _ => nz_ok _ _)
  (nz_ite (nz_bnd (nz_rows (fun t => nz_bnd (nz_kind _ _) fun _ _ => nz_bnd (nz_byte _ _) fun _ _ => nz_must fun _ => nz_bnd (nz_expr _ _) fun _ _ => nz_ok _ _) _) fun _ _ => nz_ok _ _)
  (nz_ite (nz_bnd (nz_rows (fun t => nz_bnd (nz_name _ _) fun _ _ => nz_bnd (nz_byte _ _) fun _ _ => nz_must fun _ => nz_bnd (nz_nm _ _) fun _ _ => nz_ok _ _) _) fun _ _ => nz_ok _ _)
  (nz_ite (nz_bnd (nz_nm _ _) fun _ _ => nz_ok _ _)
  (nz_ite (nz_bnd (nz_rows (fun t => nz_bnd (nz_nm _ _) fun _ _ => nz_must fun _ => nz_bnd (nz_expr _ _) fun _ _ => nz_bnd (nz_rows (nz_nm ys) _) fun _ _ => nz_ok _ _) _) fun _ _ => nz_ok _ _)
  (nz_ite (nz_bnd (nz_rows (fun t => nz_bnd (nz_part _ _) fun s t => nz_in nz_body s t) _) fun _ _ => nz_ok _ _)
  (nz_ite (nz_bnd (nz_rows (fun t => nz_bnd (nz_nm _ _) fun _ _ => nz_must fun _ => nz_bnd (nz_expr _ _) fun _ _ => nz_bnd (nz_bytes _ _) fun _ _ => nz_ok _ _) _) fun _ _ => nz_ok _ _)
  (nz_ok _ _)))))))))))
theorem nz_sec1 (xs : List Int) (last : Int) (m : Mod) (p : Int) : Nz (sec1 xs last m p) :=
  nz_bnd (nz_byte _ _) fun _ _ => nz_bnd (nz_part _ _) fun s t => nz_ite (nz_in (fun ys p => nz_bnd (nz_name _ _) fun _ _ => nz_ok _ _) _ _) (nz_in (fun ys p => nz_must fun _ => nz_bnd (nz_sec _ _ _ _) fun _ _ => nz_must fun _ => nz_ok _ _) _ _)
theorem nz_secs (xs : List Int) : ∀ (n : Nat) (last : Int) (m : Mod) (p : Int), Nz (secsT xs n last m p)
  | 0, _, _, _ => nz_ok _ _
  | n + 1, last, m, p => nz_ite (nz_bnd (nz_sec1 _ _ _ _) fun _ _ => nz_secs xs n _ _ _) (nz_ok _ _)
theorem nz_head (xs : List Int) : ∀ (l : List Int) (p : Int), Nz (headT xs l p)
  | [], p => nz_ok _ _
  | c :: l, p => nz_bnd (nz_byte _ _) fun _ _ => nz_must fun t => nz_head xs l t
theorem any_e (xs : List Int) : Nz (anyT xs) := nz_bnd (nz_head _ _ _) fun _ _ => nz_bnd (nz_secs _ _ _ _ _) fun _ _ => nz_must fun _ => nz_ok _ _
theorem dec_err {b : List Int} (h : (decS b).2 ≠ 0) : (decS b).1 = mod0 := by
  unfold decS at h ⊢
  split
  · rfl
  · rename_i c
    rw [if_neg c] at h
    rcases hx : anyT b with ⟨e, t⟩ | ⟨m, t⟩
    · rfl
    · rw [hx] at h; exact absurd rfl h
theorem dec_good {b : List Int} (h : (decS b).2 = 0) : b.length <= 16384 /\ ∃ t, anyT b = .ok ((decS b).1, t) := by
  unfold decS at h ⊢
  split
  · rename_i c
    rw [if_pos c] at h; cases h
  · rename_i c
    rw [if_neg c] at h
    refine ⟨by omega, ?_⟩
    rcases hx : anyT b with ⟨e, t⟩ | ⟨m, t⟩
    · rw [hx] at h; exact absurd h (any_e b e t hx)
    · exact ⟨t, rfl⟩
end Go.Proofs.YtmomeejfopfchaaDoor
