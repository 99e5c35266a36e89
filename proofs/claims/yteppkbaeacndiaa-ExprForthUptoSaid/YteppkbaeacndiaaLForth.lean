/- ExprForth. -/
import Derived.Test.YteppkbaeacndiaaDP
import Derived.Test.YteppkbaeacndiaaDB
import Derived.Test.YteppkbaeacndiaaGCB
import Derived.Test.YteppkbaeacndiaaGArgs
import Derived.Test.YteppkbaeacndiaaGWP
set_option linter.unusedSimpArgs false
set_option linter.unusedVariables false
namespace Go.Proofs.Yteppkbaeacndiaa
set_option maxRecDepth 20000
open Go Go.Abs Nat
attribute [local irreducible] AW AWL AC FW CW CWr IntKind.wrap
theorem MLForth.NM : type_of% @NSX /\ type_of% @St.keepS.eq_1 /\ type_of% @TY /\ type_of% @SLS /\ type_of% @nums_length :=
  ⟨NSX, St.keepS.eq_1, @TY, @SLS, @nums_length⟩
open MLForth
theorem K1LForth.kp {P : Program} {c : Code} {Q : Exit -> St -> Prop} {st : St} (h : AW P c Q (st.keepS [0, 2, 3, 4, 5, 6, 7, 8])) : AW P c Q st := AW.keepS _ h
theorem K1LForth.cl {p : Prop} (h : p := by
  first
    | refine AWL.frzG rfl rfl rfl ?_
    | refine AWL.cC (f := 9) cb9 rfl rfl rfl rfl rfl rfl (awake_ok) ?_
    | refine AWL.cC (f := 13) cb13 rfl rfl rfl rfl rfl rfl (hw) ?_
    | refine AWL.cC (f := 10) cb10 rfl rfl rfl rfl rfl rfl (hr1) ?_
    | refine AWL.cC (f := 10) cb10 rfl rfl rfl rfl rfl rfl (hr2) ?_
    | refine AWL.cC (f := 12) cb12 rfl rfl rfl rfl rfl rfl (hsm) ?_
  all_goals (apply_rules (newGoals := .nonDependentOnly) only [dep])
  all_goals constructor) : p := h
theorem K1LForth.sd {p : Prop} (h : p := by first | exact sd1eb496) : p := h
open K1LForth in
set_option maxHeartbeats 6400000 in
theorem exprForth_ok (b : List Int) (hb : bytes b) (hx : b.length <= 1048576) :
    AC Try.prog 6 [.view b.length 1 (nums .u8 b)] (fun r m => r = .bool true /\ m = []) := by
  have hr1 := eread_ok b hb (by omega) 0
  have hr2 : True := trivial
  have hsm : True := trivial
  have hw : True := trivial
  have her := fun h => readS_err hb (p := 0) h
  have hinv := fun code to h => readS_inv hb (by omega) (p := 0) (code := code) (to := to) h
  refine AC.enter Try.func6 rfl (Nat.le_of_ble_eq_true rfl) ?_
  simp only [Try.f6]
  generalize readS b 0 = z at hr1 her hinv
  obtain ⟨code, to, e⟩ := z
  simp only at hr1 her hinv
  by_cases h : e = 0
  · subst h
    obtain ⟨-, hg⟩ := hinv code to rfl
    have hi : ∀ i ∈ code, okIns i := fun i hj => (hg.ok i hj).1
    have ha : allP code = true := by unfold allP; exact List.all_eq_true.2 fun i hj => (hg.ok i hj).2
    have hwe : writeS code = (bytP code, 0) := by unfold writeS; rw [if_pos ⟨hg.closed, ha⟩]
    have hbb := bytP_bytes hi ha
    have hge := bytP_ge hg.ok
    have hlen := hg.len
    have hle := hg.le
    have hw := ewrite_ok code hi (by omega) (by omega)
    rw [hwe] at hw
    have hbk := readS_back (pre := []) (post := []) hi (fun x hx => by cases hx) (fun x hx => by cases hx) (by rw [hwe])
    rw [hwe, List.append_nil, List.nil_append] at hbk
    have hbk : readS (bytP code) 0 = (code, ((bytP code).length : Int), 0) := by
      refine hbk.trans ?_
      simp
    have hr2 := eread_ok (bytP code) hbb (by omega) 0
    rw [hbk] at hr2
    have hsm := same_ok code code (by omega) (by omega) (fun i hj => by have := (hi i hj).n; omega) (fun i hj => by have := (hi i hj).n; omega)
    rw [decide_eq_true rfl] at hsm
    have hcl : 0 < code.length := by
      obtain ⟨u, i, hu, _⟩ := hg.last
      rw [hu, List.length_append]; simp
    have hk : code.length - 1 < code.length := by omega
    have l1 := codeC_load code hk
    have r1 := codeC_room code hk
    have hlast : (code.getD (code.length - 1) ins00).op = 11 := by
      obtain ⟨u, i, hu, ho⟩ := hg.last
      rw [hu]
      simpa using ho
    have e4 : IntKind.i64.wrap ((code.length : Int) - 1) = ((code.length - 1 : Nat) : Int) := by rw [wrap64_id _ (by omega) (by omega)]; omega
    have l2 : (List.drop ((code.length - 1) * 6) (codeC code)).getD 0 .any = .int .i64 11 := by
      rw [codeC_at code hk]
      generalize code.getD (code.length - 1) ins00 = i at hlast
      obtain ⟨o, a2, b2, l2, h2, ll⟩ := i
      simp only at hlast
      subst hlast
      rfl
    generalize bytP code = w at *
    have nx : type_of% @beq_self_eq_true.{0} /\ type_of% @e4 /\ type_of% @Int.toNat_natCast /\ type_of% @l2 /\ True := ⟨@beq_self_eq_true.{0}, ⟨@e4, ⟨@Int.toNat_natCast, ⟨@l2, trivial⟩⟩⟩⟩
    refine' st1a0eb4
    all_goals first
      | exact ⟨rfl, trivial⟩
      | trace_state
  · obtain ⟨h1, h2, h3⟩ := her h
    have h3 := h3 (by omega)
    subst h1 h2
    rcases h3 with rfl | rfl | rfl
    all_goals
      have nx : type_of% @beq_self_eq_true.{0} /\ True := ⟨@beq_self_eq_true.{0}, trivial⟩
      refine' st1a0eb4
      all_goals first | exact ⟨trivial, trivial⟩ | exact ⟨rfl, trivial⟩ | exact ⟨rfl, rfl⟩ | exact ⟨trivial, rfl⟩ | (exfalso; omega) | trace_state
end Go.Proofs.Yteppkbaeacndiaa
