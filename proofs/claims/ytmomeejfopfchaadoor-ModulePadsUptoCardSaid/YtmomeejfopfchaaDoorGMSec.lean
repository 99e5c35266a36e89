/- global. -/
import Derived.Test.YtmomeejfopfchaaDoorDP
import Derived.Test.YtmomeejfopfchaaDoorGTabs
import Derived.Test.YtmomeejfopfchaaDoorGTy
import Derived.Test.YtmomeejfopfchaaDoorCB
import Derived.Test.YtmomeejfopfchaaDoorGOneImp
set_option linter.unusedSimpArgs false
set_option linter.unusedVariables false
namespace Go.Proofs.YtmomeejfopfchaaDoor
set_option maxRecDepth 20000
open Go Go.Abs Nat
attribute [local irreducible] AW AWL AC FW CW CWr IntKind.wrap
theorem MOneGlob.NM : type_of% @NSX /\ type_of% @St.keepS.eq_1 /\ type_of% @TY /\ type_of% @SLS /\ type_of% @nums_length :=
  ⟨NSX, St.keepS.eq_1, @TY, @SLS, @nums_length⟩
open MOneGlob
theorem K1OneGlob.kp {P : Program} {c : Code} {Q : Exit -> St -> Prop} {st : St} (h : AW P c Q (st.keepS [0, 2, 3, 4])) : AW P c Q st := AW.keepS _ h
theorem K1OneGlob.cl {p : Prop} (h : p := by
  first
    | refine AWL.cMP (f := 53) [(0, 0)] cb53 rfl rfl rfl rfl rfl rfl rfl (q0) ?_ ?_
    | refine AWL.cMP (f := 16) [(0, 0)] cb16 rfl rfl rfl rfl rfl rfl rfl (q1) ?_ ?_
    | refine AWL.cMP (f := 15) [] cb15 rfl rfl rfl rfl rfl rfl rfl (q2) ?_ ?_
    | refine AWL.cMP (f := 54) [(0, 0)] cb54 rfl rfl rfl rfl rfl rfl rfl (q3) ?_ ?_
  all_goals (apply_rules (newGoals := .nonDependentOnly) only [dep])
  all_goals constructor) : p := h
theorem K1OneGlob.sd {p : Prop} (h : p := by first | exact sd1eb496) : p := h
open K1OneGlob in
set_option maxHeartbeats 6400000 in
theorem tglobal_ok {b : List Int} {p : Int} {en : Nat} (h : okT b p en) : TF 41 [] b en p (globT (b.take en) p) (fun x => .agg (globC x)) := by
  have q0 : True := trivial
  have q1 : True := trivial
  have d2 : True := trivial
  have q2 : True := trivial
  have q3 : True := trivial
  obtain ⟨A, hA⟩ : ∃ A, globT (b.take en) p = A := ⟨_, rfl⟩
  rw [hA]
  unfold globT at hA
  unfold TF OKR ERR tpM
  simp only [mustT] at hA
  have q0 := tkind_ok h
  have m0 := fun x y => kindT_mv h (n := x) (t := y)
  (try unfold TF at q0)
  unfold OKR ERR tpM at q0
  rcases z0 : kindT (b.take en) p with ⟨e, t0⟩ | ⟨k, t0⟩
  all_goals
    rw [z0] at hA q0
    simp only [bnd_ok, bnd_err] at hA q0
  case' error => subst hA
  case' ok =>
    obtain ⟨h0, _, kb⟩ := m0 _ _ z0
    have q1 := tbyte_ok h0
    have m1 := fun x y => byteT_mv h0 (n := x) (t := y)
    (try unfold TF at q1)
    unfold OKR ERR tpM at q1
    rcases z1 : byteT (b.take en) t0 with ⟨e, t1⟩ | ⟨c, t1⟩
    all_goals
      rw [z1] at hA q1
      simp only [bnd_ok, bnd_err] at hA q1
    case' error => subst hA
    case' ok =>
      obtain ⟨h1, _, cb⟩ := m1 _ _ z1
      by_cases c2 : c <= 1
      case' neg =>
        have q2 := must_f
        have d2 : (decide (c <= 1)) = false := by first | exact decide_eq_false c2 | (rw [beq_eq_false_iff_ne]; exact c2)
        rw [if_neg c2] at hA
        subst hA
      case' pos =>
        have q2 := must_t
        have d2 : (decide (c <= 1)) = true := by first | exact decide_eq_true c2 | (rw [beq_iff_eq]; exact c2)
        rw [if_pos c2] at hA
        (try simp only at hA)
        have q3 := texpr_ok h1
        have m3 := fun x y => exprT_mv h1 (c := x) (t := y)
        (try unfold TF at q3)
        unfold OKR ERR tpM at q3
        rcases z3 : exprT (b.take en) t1 with ⟨e, t3⟩ | ⟨e, t3⟩
        all_goals
          rw [z3] at hA q3
          simp only [bnd_ok, bnd_err] at hA q3
        case' error => subst hA
        case' ok =>
          obtain ⟨h3, eb⟩ := m3 _ _ z3
          subst hA
  all_goals
    (try unfold globC)
    refine AMP.enter Tryd.func41 rfl (Nat.le_of_ble_eq_true rfl) (fun pn => ?_)
    simp only [Tryd.f41]
    have nx : type_of% @d2 /\ True := ⟨@d2, trivial⟩
    refine' stfd9c13
    all_goals first | exact ⟨trivial, trivial⟩ | exact ⟨rfl, trivial⟩ | exact ⟨rfl, rfl⟩ | exact ⟨trivial, rfl⟩ | (exfalso; omega) | trace_state
end Go.Proofs.YtmomeejfopfchaaDoor
namespace Go.Proofs.YtmomeejfopfchaaDoor
set_option maxRecDepth 20000
open Go Go.Abs Nat
attribute [local irreducible] AW AWL AC FW CW CWr IntKind.wrap
theorem MOneExp.NM : type_of% @NSX /\ type_of% @St.keepS.eq_1 /\ type_of% @TY /\ type_of% @SLS /\ type_of% @nums_length :=
  ⟨NSX, St.keepS.eq_1, @TY, @SLS, @nums_length⟩
open MOneExp
theorem K1OneExp.kp {P : Program} {c : Code} {Q : Exit -> St -> Prop} {st : St} (h : AW P c Q (st.keepS [0, 2, 3])) : AW P c Q st := AW.keepS _ h
theorem K1OneExp.cl {p : Prop} (h : p := by
  first
    | refine AWL.cMP (f := 19) [(0, 0)] cb19 rfl rfl rfl rfl rfl rfl rfl (q0) ?_ ?_
    | refine AWL.cMP (f := 16) [(0, 0)] cb16 rfl rfl rfl rfl rfl rfl rfl (q1) ?_ ?_
    | refine AWL.cMP (f := 15) [] cb15 rfl rfl rfl rfl rfl rfl rfl (q2) ?_ ?_
    | refine AWL.cMP (f := 18) [(0, 0)] cb18 rfl rfl rfl rfl rfl rfl rfl (q3) ?_ ?_
  all_goals (apply_rules (newGoals := .nonDependentOnly) only [dep])
  all_goals constructor) : p := h
theorem K1OneExp.sd {p : Prop} (h : p := by first | exact sd1eb496) : p := h
open K1OneExp in
set_option maxHeartbeats 6400000 in
theorem texport_ok {b : List Int} {p : Int} {en : Nat} (h : okT b p en) : TF 43 [] b en p (expT (b.take en) p) (fun x => .agg (expC x)) := by
  have q0 : True := trivial
  have q1 : True := trivial
  have e1 : True := trivial
  have d2 : True := trivial
  have q2 : True := trivial
  have q3 : True := trivial
  obtain ⟨A, hA⟩ : ∃ A, expT (b.take en) p = A := ⟨_, rfl⟩
  rw [hA]
  unfold expT at hA
  unfold TF OKR ERR tpM
  simp only [mustT] at hA
  have q0 := tname_ok h
  have m0 := fun x y => nameT_mv h (l := x) (t := y)
  (try unfold TF at q0)
  unfold OKR ERR tpM at q0
  rcases z0 : nameT (b.take en) p with ⟨e, t0⟩ | ⟨n, t0⟩
  all_goals
    rw [z0] at hA q0
    simp only [bnd_ok, bnd_err] at hA q0
  case' error => subst hA
  case' ok =>
    obtain ⟨h0, _, nb⟩ := m0 _ _ z0
    have q1 := tbyte_ok h0
    have m1 := fun x y => byteT_mv h0 (n := x) (t := y)
    (try unfold TF at q1)
    unfold OKR ERR tpM at q1
    rcases z1 : byteT (b.take en) t0 with ⟨e, t1⟩ | ⟨c, t1⟩
    all_goals
      rw [z1] at hA q1
      simp only [bnd_ok, bnd_err] at hA q1
    case' error => subst hA
    case' ok =>
      obtain ⟨h1, _, cb⟩ := m1 _ _ z1
      have e1 : IntKind.i64.wrap c = c := wrap64_id _ (by have := cb.1; omega) (by have := cb.2; omega)
      by_cases c2 : c <= 3
      case' neg =>
        have q2 := must_f
        have d2 : (decide (c <= 3)) = false := by first | exact decide_eq_false c2 | (rw [beq_eq_false_iff_ne]; exact c2)
        rw [if_neg c2] at hA
        subst hA
      case' pos =>
        have q2 := must_t
        have d2 : (decide (c <= 3)) = true := by first | exact decide_eq_true c2 | (rw [beq_iff_eq]; exact c2)
        rw [if_pos c2] at hA
        (try simp only at hA)
        have q3 := tnum_ok h1
        have m3 := fun x y => nmT_mv h1 (n := x) (t := y)
        (try unfold TF at q3)
        unfold OKR ERR tpM at q3
        rcases z3 : nmT (b.take en) t1 with ⟨e, t3⟩ | ⟨i, t3⟩
        all_goals
          rw [z3] at hA q3
          simp only [bnd_ok, bnd_err] at hA q3
        case' error => subst hA
        case' ok =>
          obtain ⟨h3, _, ib⟩ := m3 _ _ z3
          subst hA
  all_goals
    (try unfold expC)
    refine AMP.enter Tryd.func43 rfl (Nat.le_of_ble_eq_true rfl) (fun pn => ?_)
    simp only [Tryd.f43]
    have nx : type_of% @e1 /\ type_of% @d2 /\ True := ⟨@e1, ⟨@d2, trivial⟩⟩
    refine' stfd9c13
    all_goals first | exact ⟨trivial, trivial⟩ | exact ⟨rfl, trivial⟩ | exact ⟨rfl, rfl⟩ | exact ⟨trivial, rfl⟩ | (exfalso; omega) | trace_state
end Go.Proofs.YtmomeejfopfchaaDoor
namespace Go.Proofs.YtmomeejfopfchaaDoor
set_option maxRecDepth 20000
open Go Go.Abs Nat
attribute [local irreducible] AW AWL AC FW CW CWr IntKind.wrap
theorem MOneElem.NM : type_of% @NSX /\ type_of% @St.keepS.eq_1 /\ type_of% @TY /\ type_of% @SLS /\ type_of% @nums_length :=
  ⟨NSX, St.keepS.eq_1, @TY, @SLS, @nums_length⟩
open MOneElem
theorem K1OneElem.kp {P : Program} {c : Code} {Q : Exit -> St -> Prop} {st : St} (h : AW P c Q (st.keepS [0, 2, 3])) : AW P c Q st := AW.keepS _ h
theorem K1OneElem.cl {p : Prop} (h : p := by
  first
    | refine AWL.cMP (f := 18) [(0, 0)] cb18 rfl rfl rfl rfl rfl rfl rfl (q0) ?_ ?_
    | refine AWL.cMP (f := 15) [] cb15 rfl rfl rfl rfl rfl rfl rfl (q1) ?_ ?_
    | refine AWL.cMP (f := 54) [(0, 0)] cb54 rfl rfl rfl rfl rfl rfl rfl (q2) ?_ ?_
    | refine AWL.cMP (f := 35) [(0, 0)] cb35 rfl rfl rfl rfl rfl rfl rfl (q3) ?_ ?_
  all_goals (apply_rules (newGoals := .nonDependentOnly) only [dep])
  all_goals constructor) : p := h
theorem K1OneElem.sd {p : Prop} (h : p := by first | exact sd1eb496) : p := h
open K1OneElem in
set_option maxHeartbeats 6400000 in
theorem telem_ok {b : List Int} {p : Int} {en : Nat} (h : okT b p en) : TF 45 [] b en p (elemT (b.take en) p) (fun x => .agg (elemC x)) := by
  have q0 : True := trivial
  have d1 : True := trivial
  have q1 : True := trivial
  have q2 : True := trivial
  have q3 : True := trivial
  obtain ⟨A, hA⟩ : ∃ A, elemT (b.take en) p = A := ⟨_, rfl⟩
  rw [hA]
  unfold elemT at hA
  unfold TF OKR ERR tpM
  simp only [mustT] at hA
  have q0 := tnum_ok h
  have m0 := fun x y => nmT_mv h (n := x) (t := y)
  (try unfold TF at q0)
  unfold OKR ERR tpM at q0
  rcases z0 : nmT (b.take en) p with ⟨e, t0⟩ | ⟨c, t0⟩
  all_goals
    rw [z0] at hA q0
    simp only [bnd_ok, bnd_err] at hA q0
  case' error => subst hA
  case' ok =>
    obtain ⟨h0, _, cb⟩ := m0 _ _ z0
    by_cases c1 : c = 0
    case' neg =>
      have q1 := must_f
      have d1 : (c == 0) = false := by first | exact decide_eq_false c1 | (rw [beq_eq_false_iff_ne]; exact c1)
      rw [if_neg c1] at hA
      subst hA
    case' pos =>
      have q1 := must_t
      have d1 : (c == 0) = true := by first | exact decide_eq_true c1 | (rw [beq_iff_eq]; exact c1)
      rw [if_pos c1] at hA
      (try simp only at hA)
      have q2 := texpr_ok h0
      have m2 := fun x y => exprT_mv h0 (c := x) (t := y)
      (try unfold TF at q2)
      unfold OKR ERR tpM at q2
      rcases z2 : exprT (b.take en) t0 with ⟨e, t2⟩ | ⟨e, t2⟩
      all_goals
        rw [z2] at hA q2
        simp only [bnd_ok, bnd_err] at hA q2
      case' error => subst hA
      case' ok =>
        obtain ⟨h2, eb⟩ := m2 _ _ z2
        have q3 := rowInt_ok h2 1024 (by decide) cb18 (one := nmT (b.take en)) (fun t ht => tnum_ok ht) (fun t a q ht hq => (nmT_mv ht hq).1)
        have m3 := fun x y => rowsI_mv (most := 1024) h2 (fun t a q ht hq => ⟨(nmT_mv ht hq).1, Int.le_of_lt (nmT_mv ht hq).2.1⟩) (l := x) (t := y)
        (try unfold TF at q3)
        unfold OKR ERR tpM at q3
        rcases z3 : rowsT (b.take en) 1024 (nmT (b.take en)) t2 with ⟨e, t3⟩ | ⟨f, t3⟩
        all_goals
          rw [z3] at hA q3
          simp only [bnd_ok, bnd_err, flat_int] at hA q3
        case' error => subst hA
        case' ok =>
          obtain ⟨h3, fb⟩ := m3 _ _ z3
          subst hA
  all_goals
    (try unfold elemC)
    refine AMP.enter Tryd.func45 rfl (Nat.le_of_ble_eq_true rfl) (fun pn => ?_)
    simp only [Tryd.f45]
    have nx : type_of% @d1 /\ True := ⟨@d1, trivial⟩
    refine' st4ac375
    all_goals first | exact ⟨trivial, trivial⟩ | exact ⟨rfl, trivial⟩ | exact ⟨rfl, rfl⟩ | exact ⟨trivial, rfl⟩ | (exfalso; omega) | trace_state
end Go.Proofs.YtmomeejfopfchaaDoor
namespace Go.Proofs.YtmomeejfopfchaaDoor
set_option maxRecDepth 20000
open Go Go.Abs Nat
attribute [local irreducible] AW AWL AC FW CW CWr IntKind.wrap
theorem MOneData.NM : type_of% @NSX /\ type_of% @St.keepS.eq_1 /\ type_of% @TY /\ type_of% @SLS /\ type_of% @nums_length :=
  ⟨NSX, St.keepS.eq_1, @TY, @SLS, @nums_length⟩
open MOneData
theorem K1OneData.kp {P : Program} {c : Code} {Q : Exit -> St -> Prop} {st : St} (h : AW P c Q (st.keepS [0, 2, 3])) : AW P c Q st := AW.keepS _ h
theorem K1OneData.cl {p : Prop} (h : p := by
  first
    | refine AWL.cMP (f := 18) [(0, 0)] cb18 rfl rfl rfl rfl rfl rfl rfl (q0) ?_ ?_
    | refine AWL.cMP (f := 15) [] cb15 rfl rfl rfl rfl rfl rfl rfl (q1) ?_ ?_
    | refine AWL.cMP (f := 54) [(0, 0)] cb54 rfl rfl rfl rfl rfl rfl rfl (q2) ?_ ?_
    | refine AWL.cMP (f := 29) [(0, 0)] cb29 rfl rfl rfl rfl rfl rfl rfl (q3) ?_ ?_
  all_goals (apply_rules (newGoals := .nonDependentOnly) only [dep])
  all_goals constructor) : p := h
theorem K1OneData.sd {p : Prop} (h : p := by first | exact sd1eb496) : p := h
open K1OneData in
set_option maxHeartbeats 6400000 in
theorem tdata_ok {b : List Int} {p : Int} {en : Nat} (h : okT b p en) : TF 49 [] b en p (dataT (b.take en) p) (fun x => .agg (dataC x)) := by
  have q0 : True := trivial
  have d1 : True := trivial
  have q1 : True := trivial
  have q2 : True := trivial
  have q3 : True := trivial
  obtain ⟨A, hA⟩ : ∃ A, dataT (b.take en) p = A := ⟨_, rfl⟩
  rw [hA]
  unfold dataT at hA
  unfold TF OKR ERR tpM
  simp only [mustT] at hA
  have q0 := tnum_ok h
  have m0 := fun x y => nmT_mv h (n := x) (t := y)
  (try unfold TF at q0)
  unfold OKR ERR tpM at q0
  rcases z0 : nmT (b.take en) p with ⟨e, t0⟩ | ⟨c, t0⟩
  all_goals
    rw [z0] at hA q0
    simp only [bnd_ok, bnd_err] at hA q0
  case' error => subst hA
  case' ok =>
    obtain ⟨h0, _, cb⟩ := m0 _ _ z0
    by_cases c1 : c = 0
    case' neg =>
      have q1 := must_f
      have d1 : (c == 0) = false := by first | exact decide_eq_false c1 | (rw [beq_eq_false_iff_ne]; exact c1)
      rw [if_neg c1] at hA
      subst hA
    case' pos =>
      have q1 := must_t
      have d1 : (c == 0) = true := by first | exact decide_eq_true c1 | (rw [beq_iff_eq]; exact c1)
      rw [if_pos c1] at hA
      (try simp only at hA)
      have q2 := texpr_ok h0
      have m2 := fun x y => exprT_mv h0 (c := x) (t := y)
      (try unfold TF at q2)
      unfold OKR ERR tpM at q2
      rcases z2 : exprT (b.take en) t0 with ⟨e, t2⟩ | ⟨e, t2⟩
      all_goals
        rw [z2] at hA q2
        simp only [bnd_ok, bnd_err] at hA q2
      case' error => subst hA
      case' ok =>
        obtain ⟨h2, eb⟩ := m2 _ _ z2
        have q3 := tbytes_ok h2
        have m3 := fun x y => bytesT_mv h2 (l := x) (t := y)
        (try unfold TF at q3)
        unfold OKR ERR tpM at q3
        rcases z3 : bytesT (b.take en) t2 with ⟨e, t3⟩ | ⟨y, t3⟩
        all_goals
          rw [z3] at hA q3
          simp only [bnd_ok, bnd_err] at hA q3
        case' error => subst hA
        case' ok =>
          obtain ⟨h3, _, yb⟩ := m3 _ _ z3
          subst hA
  all_goals
    (try unfold dataC)
    refine AMP.enter Tryd.func49 rfl (Nat.le_of_ble_eq_true rfl) (fun pn => ?_)
    simp only [Tryd.f49]
    have nx : type_of% @d1 /\ True := ⟨@d1, trivial⟩
    refine' stfd9c13
    all_goals first | exact ⟨trivial, trivial⟩ | exact ⟨rfl, trivial⟩ | exact ⟨rfl, rfl⟩ | exact ⟨trivial, rfl⟩ | (exfalso; omega) | trace_state
end Go.Proofs.YtmomeejfopfchaaDoor
namespace Go.Proofs.YtmomeejfopfchaaDoor
set_option maxRecDepth 20000
open Go Go.Abs
theorem bnd_inv {α β : Type} {x : Res α} {f : α -> Int -> Res β} {z : β × Int} (h : bnd x f = .ok z) : ∃ a t, x = .ok (a, t) /\ f a t = .ok z := by
  rcases x with e | ⟨a, t⟩
  · cases h
  · exact ⟨a, t, rfl, h⟩
theorem mustT_inv {c : Prop} [Decidable c] {α : Type} {x : Int -> Res α} {t : Int} {z : α × Int} (h : mustT c x t = .ok z) : c /\ x t = .ok z := by
  unfold mustT at h
  split at h
  · rename_i hc; exact ⟨hc, h⟩
  · cases h
theorem ok_inv {α : Type} {a b : α} {t u : Int} (h : (.ok (a, t) : Res α) = .ok (b, u)) : a = b /\ t = u := by
  simp only [Except.ok.injEq, Prod.mk.injEq] at h; exact h
section
variable {b : List Int} {p t : Int} {en : Nat}
theorem limT_mv {most : Int} (h : okT b p en) {x : Int × Int} (he : limT (b.take en) most p = .ok (x, t)) : okT b t en /\ p <= t := by
  unfold limT at he
  obtain ⟨f, t0, z0, he⟩ := bnd_inv he
  obtain ⟨h0, e0, _⟩ := byteT_mv h z0
  split at he
  · cases he
  obtain ⟨n, t1, z1, he⟩ := bnd_inv he
  obtain ⟨h1, e1, _⟩ := cntT_mv h0 z1
  split at he
  · obtain ⟨n, t2, z2, he⟩ := bnd_inv he
    obtain ⟨h2, e2, _⟩ := nmT_mv h1 z2
    obtain ⟨_, rfl⟩ := ok_inv he
    exact ⟨h2, by omega⟩
  · obtain ⟨_, rfl⟩ := ok_inv he
    exact ⟨h1, by omega⟩
theorem tabT_mv (h : okT b p en) {x : Int × Int} (he : tabT (b.take en) p = .ok (x, t)) : okT b t en /\ p <= t := by
  unfold tabT at he
  obtain ⟨f, t0, z0, he⟩ := bnd_inv he
  obtain ⟨h0, e0, _⟩ := byteT_mv h z0
  obtain ⟨_, he⟩ := mustT_inv he
  obtain ⟨h1, e1⟩ := limT_mv h0 he
  exact ⟨h1, by omega⟩
theorem kinds_mv (h : okT b p en) {l : List Int} (he : rowsT (b.take en) 32 (kindT (b.take en)) p = .ok (l, t)) : okT b t en /\ p <= t := by
  obtain ⟨h1, e1, _⟩ := rowsI_mv (most := 32) h (fun t a q ht hq => ⟨(kindT_mv ht hq).1, Int.le_of_lt (kindT_mv ht hq).2.1⟩) he
  exact ⟨h1, Int.le_of_lt e1⟩
theorem sigT_mv (h : okT b p en) {x : MSig} (he : sigT (b.take en) p = .ok (x, t)) : okT b t en /\ p <= t := by
  unfold sigT at he
  obtain ⟨f, t0, z0, he⟩ := bnd_inv he
  obtain ⟨h0, e0, _⟩ := byteT_mv h z0
  obtain ⟨_, he⟩ := mustT_inv he
  obtain ⟨i, t1, z1, he⟩ := bnd_inv he
  obtain ⟨h1, e1⟩ := kinds_mv h0 z1
  obtain ⟨i, t2, z2, he⟩ := bnd_inv he
  obtain ⟨h2, e2⟩ := kinds_mv h1 z2
  obtain ⟨_, rfl⟩ := ok_inv he
  exact ⟨h2, by omega⟩
theorem impT_mv (h : okT b p en) {x : MImp} (he : impT (b.take en) p = .ok (x, t)) : okT b t en /\ p <= t := by
  unfold impT at he
  obtain ⟨f, t0, z0, he⟩ := bnd_inv he
  obtain ⟨h0, e0, _⟩ := nameT_mv h z0
  obtain ⟨i, t1, z1, he⟩ := bnd_inv he
  obtain ⟨h1, e1, _⟩ := nameT_mv h0 z1
  obtain ⟨i, t2, z2, he⟩ := bnd_inv he
  obtain ⟨h2, e2, _⟩ := byteT_mv h1 z2
  obtain ⟨_, he⟩ := mustT_inv he
  obtain ⟨i, t3, z3, he⟩ := bnd_inv he
  obtain ⟨h3, e3, _⟩ := nmT_mv h2 z3
  obtain ⟨_, rfl⟩ := ok_inv he
  exact ⟨h3, by omega⟩
theorem globT_mv (h : okT b p en) {x : MGlob} (he : globT (b.take en) p = .ok (x, t)) : okT b t en /\ p <= t := by
  unfold globT at he
  obtain ⟨f, t0, z0, he⟩ := bnd_inv he
  obtain ⟨h0, e0, _⟩ := kindT_mv h z0
  obtain ⟨i, t1, z1, he⟩ := bnd_inv he
  obtain ⟨h1, e1, _⟩ := byteT_mv h0 z1
  obtain ⟨_, he⟩ := mustT_inv he
  obtain ⟨i, t2, z2, he⟩ := bnd_inv he
  obtain ⟨h2, e2⟩ := exprT_mv h1 z2
  obtain ⟨_, rfl⟩ := ok_inv he
  exact ⟨h2, by omega⟩
theorem expT_mv (h : okT b p en) {x : MExp} (he : expT (b.take en) p = .ok (x, t)) : okT b t en /\ p <= t := by
  unfold expT at he
  obtain ⟨f, t0, z0, he⟩ := bnd_inv he
  obtain ⟨h0, e0, _⟩ := nameT_mv h z0
  obtain ⟨i, t1, z1, he⟩ := bnd_inv he
  obtain ⟨h1, e1, _⟩ := byteT_mv h0 z1
  obtain ⟨_, he⟩ := mustT_inv he
  obtain ⟨i, t2, z2, he⟩ := bnd_inv he
  obtain ⟨h2, e2, _⟩ := nmT_mv h1 z2
  obtain ⟨_, rfl⟩ := ok_inv he
  exact ⟨h2, by omega⟩
theorem elemT_mv (h : okT b p en) {x : MElem} (he : elemT (b.take en) p = .ok (x, t)) : okT b t en /\ p <= t := by
  unfold elemT at he
  obtain ⟨f, t0, z0, he⟩ := bnd_inv he
  obtain ⟨h0, e0, _⟩ := nmT_mv h z0
  obtain ⟨_, he⟩ := mustT_inv he
  obtain ⟨i, t1, z1, he⟩ := bnd_inv he
  obtain ⟨h1, e1⟩ := exprT_mv h0 z1
  obtain ⟨i, t2, z2, he⟩ := bnd_inv he
  obtain ⟨h2, e2, _⟩ := rowsI_mv (most := 1024) h1 (fun t a q ht hq => ⟨(nmT_mv ht hq).1, Int.le_of_lt (nmT_mv ht hq).2.1⟩) z2
  obtain ⟨_, rfl⟩ := ok_inv he
  exact ⟨h2, by omega⟩
theorem dataT_mv (h : okT b p en) {x : MData} (he : dataT (b.take en) p = .ok (x, t)) : okT b t en /\ p <= t := by
  unfold dataT at he
  obtain ⟨f, t0, z0, he⟩ := bnd_inv he
  obtain ⟨h0, e0, _⟩ := nmT_mv h z0
  obtain ⟨_, he⟩ := mustT_inv he
  obtain ⟨i, t1, z1, he⟩ := bnd_inv he
  obtain ⟨h1, e1⟩ := exprT_mv h0 z1
  obtain ⟨i, t2, z2, he⟩ := bnd_inv he
  obtain ⟨h2, e2, _⟩ := bytesT_mv h1 z2
  obtain ⟨_, rfl⟩ := ok_inv he
  exact ⟨h2, by omega⟩
theorem inT_mv {α : Type} {f : List Int -> Int -> Res α} {xs : List Int} {s u : Int} {x : α} (he : inT xs f s u = .ok (x, t)) : t = u := by
  unfold inT at he
  split at he
  · exact (ok_inv he).2.symm
  · cases he
theorem codeT_mv (h : okT b p en) {x : MCode} (he : codeT (b.take en) p = .ok (x, t)) : okT b t en /\ p <= t := by
  unfold codeT at he
  obtain ⟨s, u, z0, he⟩ := bnd_inv he
  obtain ⟨h0, e0, e1⟩ := partT_mv h z0
  obtain rfl := inT_mv he
  exact ⟨h0, by omega⟩
end
end Go.Proofs.YtmomeejfopfchaaDoor
namespace Go.Proofs.YtmomeejfopfchaaDoor
set_option maxRecDepth 20000
open Go Go.Abs Nat
attribute [local irreducible] AW AWL AC FW CW CWr IntKind.wrap
theorem MMLim.NM : type_of% @NSX /\ type_of% @St.keepS.eq_1 /\ type_of% @TY /\ type_of% @SLS /\ type_of% @nums_length :=
  ⟨NSX, St.keepS.eq_1, @TY, @SLS, @nums_length⟩
open MMLim
theorem K1MLim.kp {P : Program} {c : Code} {Q : Exit -> St -> Prop} {st : St} (h : AW P c Q (st.keepS [0, 1])) : AW P c Q st := AW.keepS _ h
theorem K1MLim.cl {p : Prop} (h : p := by
  first
    | refine AWL.cMP (f := 15) [] cb15 rfl rfl rfl rfl rfl rfl rfl (q1) ?_ ?_
    | refine AWL.cMP (f := 16) [(0, 0)] cb16 rfl rfl rfl rfl rfl rfl rfl (q0) ?_ ?_
    | refine AWL.cMP (f := 38) [(0, 0)] cb38 rfl rfl rfl rfl rfl rfl rfl (q2) ?_ ?_
  all_goals (apply_rules (newGoals := .nonDependentOnly) only [dep])
  all_goals constructor) : p := h
theorem K1MLim.sd {p : Prop} (h : p := by first | exact sd1eb496) : p := h
theorem K2MLim.kp {P : Program} {c : Code} {Q : Exit -> St -> Prop} {st : St} (h : AW P c Q (st.keepS [0, 1])) : AW P c Q st := AW.keepS _ h
theorem K2MLim.cl {p : Prop} (h : p := by
  first
    | refine AWL.cMP (f := 38) [(0, 0)] cb38 rfl rfl rfl rfl rfl rfl rfl (q2) ?_ ?_
  all_goals (apply_rules (newGoals := .nonDependentOnly) only [dep])
  all_goals constructor) : p := h
theorem K2MLim.sd {p : Prop} (h : p := by first | exact sd1eb496) : p := h
open K1MLim in
set_option maxHeartbeats 6400000 in
theorem tsec1_ok {b : List Int} {p : Int} {en : Nat} (h : okT b p en) : AMP Tryd.prog 37 [.ptr 3 0] (tpM 0 b p en ++ [(3, ⟨false, [.ptr 0 0]⟩)]) [0, 3] (OKRx (tabT (b.take en) p) (fun x => .agg (limC x)) b en) (ERRx (tabT (b.take en) p) b en) := by
  have q0 := tbyte_ok h
  have m0 := fun x y => byteT_mv h (n := x) (t := y)
  have q1 : True := trivial
  have q2 : True := trivial
  have d1 : True := trivial
  obtain ⟨A, hA⟩ : ∃ A, tabT (b.take en) p = A := ⟨_, rfl⟩
  rw [hA]
  unfold tabT mustT at hA
  unfold TF OKR ERR tpM at q0
  unfold OKRx ERRx tpM
  rcases z0 : byteT (b.take en) p with ⟨e, t0⟩ | ⟨c, t0⟩
  all_goals
    rw [z0] at hA q0
    simp only [bnd_ok, bnd_err] at hA q0
  case' error => subst hA
  case' ok =>
    obtain ⟨h0, _, cb⟩ := m0 _ _ z0
    by_cases c1 : c = 112
    case' neg =>
      have q1 := must_f
      have d1 : (c == 112) = false := by rw [beq_eq_false_iff_ne]; exact c1
      rw [if_neg c1] at hA
      subst hA
    case' pos =>
      have q1 := must_t
      have d1 : (c == 112) = true := by rw [beq_iff_eq]; exact c1
      rw [if_pos c1] at hA
      have q2 := tlim_ok h0 1024
      unfold TF OKR ERR tpM at q2
      rcases z2 : limT (b.take en) 1024 t0 with ⟨e, t1⟩ | ⟨x, t1⟩
      all_goals
        rw [z2] at hA q2
        simp only at q2
        subst hA
  all_goals
    refine AMP.enter Tryd.func37 rfl (Nat.le_of_ble_eq_true rfl) (fun pn => ?_)
    simp only [Tryd.f37]
    (try simp only [limE] at q2)
    have nx : type_of% @d1 /\ True := ⟨@d1, trivial⟩
    refine' st0ffe83
    all_goals first | exact ⟨trivial, trivial⟩ | exact ⟨rfl, trivial⟩ | exact ⟨rfl, rfl⟩ | exact ⟨trivial, rfl⟩ | (exfalso; omega) | trace_state
open K2MLim in
set_option maxHeartbeats 6400000 in
theorem tsec2_ok {b : List Int} {p : Int} {en : Nat} (h : okT b p en) : AMP Tryd.prog 39 [.ptr 3 0] (tpM 0 b p en ++ [(3, ⟨false, [.ptr 0 0]⟩)]) [0, 3] (OKRx (limT (b.take en) 16 p) (fun x => .agg (limC x)) b en) (ERRx (limT (b.take en) 16 p) b en) := by
  have q2 := tlim_ok h 16
  have q1 : True := trivial
  have q0 : True := trivial
  obtain ⟨A, hA⟩ : ∃ A, limT (b.take en) 16 p = A := ⟨_, rfl⟩
  rw [hA]
  unfold TF OKR ERR tpM at q2
  unfold OKRx ERRx tpM
  rcases z2 : limT (b.take en) 16 p with ⟨e, t1⟩ | ⟨x, t1⟩
  all_goals
    rw [z2] at hA q2
    simp only at q2
    subst hA
    refine AMP.enter Tryd.func39 rfl (Nat.le_of_ble_eq_true rfl) (fun pn => ?_)
    simp only [Tryd.f39]
    (try simp only [limE] at q2)
    have nx : True := trivial
    refine' st0ffe83
    all_goals first | exact ⟨trivial, trivial⟩ | exact ⟨rfl, trivial⟩ | exact ⟨rfl, rfl⟩ | exact ⟨trivial, rfl⟩ | (exfalso; omega) | trace_state
end Go.Proofs.YtmomeejfopfchaaDoor
namespace Go.Proofs.YtmomeejfopfchaaDoor
set_option maxRecDepth 20000
open Go Go.Abs Nat
attribute [local irreducible] AW AWL AC FW CW CWr IntKind.wrap
def Tc (pn : Nat -> Option BI) (b : List Int) (en T : Nat) (q : Int) (l : List Int) (runs : Nat) : St := { n := 42, slots := [(2, .ptr 2 0), (3, .ptr 34011 0), (4, .ptr 4 0), (5, .int .i64 (runs : Int))], mem := [(0, ⟨false, [.view b.length 1 (nums .u8 b), .int .i64 T, .int .i64 en]⟩), (2, ⟨false, [.ref 3000 0 0 1, .nils]⟩), (3000, ⟨true, []⟩), (34011, ⟨false, [.view b.length 1 (nums .u8 b), .int .i64 q, .int .i64 T]⟩), (4, ⟨false, [.ref 5000 0 l.length 1, .nils]⟩), (5000, ⟨true, nums .i64 l⟩)], lent := [(34011, none), (0, pn 0)] }
def Ti (pn : Nat -> Option BI) (b : List Int) (en T : Nat) (q : Int) (l : List Int) (runs k j : Nat) (c : Int) : St := { n := 42, slots := [(2, .ptr 2 0), (3, .ptr 34011 0), (4, .ptr 4 0), (5, .int .i64 (runs : Int)), (7, .int .i64 c), (26, .int .i64 (k : Int)), (27, .int .i64 (j : Int))], mem := [(0, ⟨false, [.view b.length 1 (nums .u8 b), .int .i64 T, .int .i64 en]⟩), (2, ⟨false, [.ref 3000 0 0 1, .nils]⟩), (3000, ⟨true, []⟩), (34011, ⟨false, [.view b.length 1 (nums .u8 b), .int .i64 q, .int .i64 T]⟩), (4, ⟨false, [.ref 5000 0 l.length 1, .nils]⟩), (5000, ⟨true, nums .i64 l⟩)], lent := [(34011, none), (0, pn 0)] }
def inR {α : Type} (T : Int) (x : Res α) : Res α := match x with
  | .ok (a, _) => .ok (a, T)
  | .error (e, _) => .error (e, T)
def restR (ys : List Int) (x : Res (List Int)) : Res MCode := bnd x fun l t => bnd (exprT ys t) fun c t => mustT (t = ys.length) (fun t => .ok (⟨l, c⟩, t)) t
theorem MMCode.NM : type_of% @NSX /\ type_of% @St.keepS.eq_1 /\ type_of% @TY /\ type_of% @SLS /\ type_of% @nums_length /\ type_of% @Tc.eq_1 /\ type_of% @Ti.eq_1 :=
  ⟨NSX, St.keepS.eq_1, @TY, @SLS, @nums_length, @Tc.eq_1, @Ti.eq_1⟩
open MMCode
theorem K1MCode.kp {P : Program} {c : Code} {Q : Exit -> St -> Prop} {st : St} (h : AW P c Q (st.keepS [0, 2, 3, 4, 5, 6, 7, 26, 27])) : AW P c Q st := AW.keepS _ h
theorem K1MCode.cl {p : Prop} (h : p := by
  first
    | refine AWL.cMP (f := 18) [(0, 0)] cb18 rfl rfl rfl rfl rfl rfl rfl (hn) ?_ ?_
    | refine AWL.cMP (f := 17) [(0, 0)] cb17 rfl rfl rfl rfl rfl rfl rfl (hp) ?_ ?_
    | refine AWL.cMP (f := 18) [(0, 34011)] cb18 rfl rfl rfl rfl rfl rfl rfl (hr) ?_ ?_
    | refine AWL.cMP (f := 52) [(0, 34011)] cb52 rfl rfl rfl rfl rfl rfl rfl (hc) ?_ ?_
    | refine AWL.cMP (f := 53) [(0, 34011)] cb53 rfl rfl rfl rfl rfl rfl rfl (hk) ?_ ?_
    | refine AWL.cMP (f := 54) [(0, 34011)] cb54 rfl rfl rfl rfl rfl rfl rfl (he) ?_ ?_
    | refine AWL.cMP (f := 21) [(0, 34011)] cb21 rfl rfl rfl rfl rfl rfl rfl (hd) ?_ ?_
  all_goals (apply_rules (newGoals := .nonDependentOnly) only [dep])
  all_goals constructor) : p := h
theorem K1MCode.rt {p : Prop} (h : p := by
  first | (refine AW.frzRet 3000 rfl rfl ?_; (try (conv => arg -1; simp (disch := omega) only [NM, Nat.reduceBEq, reduceAdd, reduceMul, Int.reduceToNat, reduceSub, List.set_cons_zero, List.set_cons_succ, nx])))
  all_goals (apply_rules (newGoals := .nonDependentOnly) only [dep])
  all_goals constructor) : p := h
theorem K1MCode.sd {p : Prop} (h : p := by first | exact sd1eb496) : p := h
open K1MCode in
set_option maxHeartbeats 12800000 in
theorem tcode_ok {b : List Int} {p : Int} {en : Nat} (h : okT b p en) : TF 47 [] b en p (codeT (b.take en) p) (fun x => .agg (codC x)) := by
  have hn := tnum_ok h
  have hnm := fun n t => nmT_mv h (n := n) (t := t)
  have hlen := h.len
  have hp : True := trivial
  have hr : True := trivial
  have hc : True := trivial
  have hk : True := trivial
  have he : True := trivial
  have hd : True := trivial
  obtain ⟨A, hA⟩ : ∃ A, codeT (b.take en) p = A := ⟨_, rfl⟩
  rw [hA]
  unfold codeT partT at hA
  unfold TF OKR ERR tpM at hn
  unfold TF OKR ERR tpM
  rcases hz : nmT (b.take en) p with ⟨e, t⟩ | ⟨n, t⟩
  all_goals
    rw [hz] at hA hn hnm
    simp only [bnd_ok, bnd_err] at hA hn
  · subst hA
    refine AMP.enter Tryd.func47 rfl (Nat.le_of_ble_eq_true rfl) (fun pn => ?_)
    simp only [Tryd.f47]
    have nx : True := trivial
    refine' stdbb2e8
    all_goals first | exact ⟨trivial, trivial⟩ | exact ⟨rfl, trivial⟩ | exact ⟨rfl, rfl⟩ | exact ⟨trivial, rfl⟩ | (exfalso; omega) | trace_state
  obtain ⟨h2, h3, h4⟩ := hnm _ _ rfl
  have hp := tpart_ok h2 n h4
  unfold tpM at hp
  unfold partN at hA
  rw [hlen] at hA
  by_cases c : n <= en - t
  case neg =>
    rw [if_pos (by omega)] at hA
    simp only [c, not_false_eq_true, true_and, false_and] at hp
    subst hA
    refine AMP.enter Tryd.func47 rfl (Nat.le_of_ble_eq_true rfl) (fun pn => ?_)
    simp only [Tryd.f47]
    have nx : True := trivial
    refine' stdbb2e8
    all_goals first | exact ⟨trivial, trivial⟩ | exact ⟨rfl, trivial⟩ | exact ⟨rfl, rfl⟩ | exact ⟨trivial, rfl⟩ | (exfalso; omega) | trace_state
  rw [if_neg (by omega), bnd_ok] at hA
  simp only [c, true_and, not_true_eq_false, false_and] at hp
  obtain ⟨T, hT⟩ : ∃ T : Nat, t + n = T := ⟨(t + n).toNat, by have := h2.p0; omega⟩
  rw [hT] at hA hp
  have hys : (b.take en).take T = b.take T := by rw [List.take_take, Nat.min_eq_left (by have := h2.p1; omega)]
  have ho : okT b t T := ⟨h2.hb, h2.hl, by have := h2.he; omega, h2.p0, by omega⟩
  unfold inT at hA
  rw [Int.toNat_natCast, hys] at hA
  obtain ⟨B, hB⟩ : ∃ B, bodyT (b.take T) t = B := ⟨_, rfl⟩
  rw [hB] at hA
  have hA : inR T B = A := hA
  unfold bodyT at hB
  have hr := tnum_ok ho
  have hrm := fun n t => nmT_mv ho (n := n) (t := t)
  unfold TF OKR ERR tpM at hr
  clear hnm
  rcases hz2 : nmT (b.take T) t with ⟨e, q⟩ | ⟨runs, q⟩
  all_goals
    rw [hz2] at hB hr hrm
    simp only [bnd_ok, bnd_err] at hB hr
  · subst hB
    simp only [inR] at hA
    subst hA
    refine AMP.enter Tryd.func47 rfl (Nat.le_of_ble_eq_true rfl) (fun pn => ?_)
    simp only [Tryd.f47]
    have nx : True := trivial
    refine' stdbb2e8
    all_goals first | exact ⟨trivial, trivial⟩ | exact ⟨rfl, trivial⟩ | exact ⟨rfl, rfl⟩ | exact ⟨trivial, rfl⟩ | (exfalso; omega) | trace_state
  obtain ⟨h5, h6, h7⟩ := hrm _ _ rfl
  obtain ⟨R, rfl⟩ : ∃ R : Nat, runs = R := ⟨runs.toNat, by omega⟩
  have hB : restR (b.take T) (runsT (b.take T) R [] q) = B := hB
  clear hrm hz2 hz
  refine AMP.enter Tryd.func47 rfl (Nat.le_of_ble_eq_true rfl) (fun pn => ?_)
  simp only [Tryd.f47]
  have nx : True := trivial
  refine' stdbb2e8
  refine AW.loop [2, 3, 4, 5] [0, 2, 3000, 34011, 4, 5000] (fun m st => ∃ (R : Nat) (q : Int) (l : List Int), st = Tc pn b en T q l R /\ okT b q T /\ l.length <= 512 /\ (R : Int) < 4294967296 /\ restR (b.take T) (runsT (b.take T) R l q) = B /\ R = m) ?_ ?_
  · exact ⟨_, R, q, [], rfl, h5, Nat.zero_le _, h7.2, hB, rfl⟩
  clear hB h5 h6 h7 hr hn hp
  rintro m st ⟨R, q, l, rfl, hq, hl, hR, hB, rfl⟩
  rcases R with _ | R
  · rw [runsT] at hB
    simp only [restR, bnd_ok] at hB
    have he := texpr_ok hq
    have hem := fun n t => exprT_mv hq (c := n) (t := t)
    have hcut : List.take l.length (nums .i64 l) = nums .i64 l := List.take_of_length_le (by rw [nums_length]; omega)
    unfold TF OKR ERR tpM codeE at he
    rcases hz3 : exprT (b.take T) q with ⟨e, r⟩ | ⟨cd, r⟩
    all_goals
      rw [hz3] at hB he hem
      simp only [bnd_ok, bnd_err] at hB he
    case' error =>
      subst hB
      simp only [inR] at hA
      subst hA
    case' ok =>
      obtain ⟨h8, h9⟩ := hem _ _ rfl
      have hd := tdone_ok h8
      unfold TF OKR ERR tpM doneT at hd
      simp only [mustT] at hB hd
      by_cases c4 : r = ((b.take T).length : Int)
      case' neg =>
        rw [if_neg c4] at hB hd
        subst hB
        simp only [inR] at hA
        subst hA
      case' pos =>
        rw [if_pos c4] at hB hd
        simp only at hd
        subst hB
        simp only [inR] at hA
        subst hA
    all_goals
      have nx : type_of% @hcut /\ True := ⟨@hcut, trivial⟩
      refine' stdbb2e8
      all_goals first | exact ⟨trivial, trivial⟩ | exact ⟨rfl, trivial⟩ | exact ⟨rfl, rfl⟩ | exact ⟨trivial, rfl⟩ | (exfalso; omega) | trace_state
  · have hc := tcount_ok hq (512 - (l.length : Int))
    have hcm := fun n t => cntT_mv hq (most := 512 - (l.length : Int)) (n := n) (t := t)
    have e1 : IntKind.i64.wrap (512 - (l.length : Int)) = 512 - (l.length : Int) := wrap64_id _ (by omega) (by omega)
    have e2 : IntKind.i64.wrap (((R + 1 : Nat) : Int) - 1) = (R : Int) := by rw [wrap64_id _ (by omega) (by omega)]; omega
    have d1 : decide (((R + 1 : Nat) : Int) > 0) = true := decide_eq_true (by omega)
    rw [runsT] at hB
    unfold TF OKR ERR tpM at hc
    rcases hz3 : cntT (b.take T) (512 - (l.length : Int)) q with ⟨e, r⟩ | ⟨k, r⟩
    all_goals
      rw [hz3] at hB hc hcm
      simp only [restR, bnd_ok, bnd_err] at hB hc
    · subst hB
      simp only [inR] at hA
      subst hA
      have nx : type_of% @e1 /\ type_of% @d1 /\ True := ⟨@e1, ⟨@d1, trivial⟩⟩
      refine' stdbb2e8
      all_goals first | exact ⟨trivial, trivial⟩ | exact ⟨rfl, trivial⟩ | exact ⟨rfl, rfl⟩ | exact ⟨trivial, rfl⟩ | (exfalso; omega) | trace_state
    obtain ⟨h8, h9, h10⟩ := hcm _ _ rfl
    obtain ⟨K, rfl⟩ : ∃ K : Nat, k = K := ⟨k.toNat, by omega⟩
    have hk := tkind_ok h8
    have hkm := fun n t => kindT_mv h8 (n := n) (t := t)
    unfold TF OKR ERR tpM at hk
    rcases hz4 : kindT (b.take T) r with ⟨e, s⟩ | ⟨cc, s⟩
    all_goals
      rw [hz4] at hB hk hkm
      simp only [bnd_ok, bnd_err] at hB hk
    · subst hB
      simp only [inR] at hA
      subst hA
      have nx : type_of% @e1 /\ type_of% @d1 /\ True := ⟨@e1, ⟨@d1, trivial⟩⟩
      refine' stdbb2e8
      all_goals first | exact ⟨trivial, trivial⟩ | exact ⟨rfl, trivial⟩ | exact ⟨rfl, rfl⟩ | exact ⟨trivial, rfl⟩ | (exfalso; omega) | trace_state
    obtain ⟨h11, h12, h13⟩ := hkm _ _ rfl
    rw [Int.toNat_natCast] at hB
    have hB : restR (b.take T) (runsT (b.take T) R (l ++ List.replicate K cc) s) = B := hB
    clear hkm hcm hz3 hz4
    have nx : type_of% @e1 /\ type_of% @d1 /\ True := ⟨@e1, ⟨@d1, trivial⟩⟩
    refine' stdbb2e8
    refine AW.loop [2, 3, 4, 5, 7, 26, 27] [0, 2, 3000, 34011, 4, 5000] (fun m st => ∃ (j : Nat), st = Ti pn b en T s (l ++ List.replicate j cc) (R + 1) K j cc /\ j <= K /\ m = K - j) ?_ ?_
    · exact ⟨_, 0, by simp only [List.replicate_zero, List.append_nil]; rfl, Nat.zero_le _, rfl⟩
    clear hc hk
    rintro m st ⟨j, rfl, hj, rfl⟩
    have hjl : (l ++ List.replicate j cc).length <= 512 := by rw [List.length_append, List.length_replicate]; omega
    by_cases hjk : j < K
    · have e7 : IntKind.i64.wrap ((j : Int) + 1) = ((j + 1 : Nat) : Int) := by rw [wrap64_id _ (by omega) (by omega)]; omega
      have d2 : decide ((j : Int) < (K : Int)) = true := decide_eq_true (by omega)
      have hj1 : l ++ List.replicate (j + 1) cc = l ++ List.replicate j cc ++ [cc] := by rw [List.replicate_succ', List.append_assoc]
      have hl1 : (l ++ List.replicate j cc ++ [cc]).length = (l ++ List.replicate j cc).length + 1 := by rw [List.length_append]; rfl
      generalize l ++ List.replicate j cc = L at hjl hj1 hl1
      have hcut : List.take L.length (nums .i64 L) = nums .i64 L := List.take_of_length_le (by rw [nums_length]; omega)
      have nx : type_of% @e7 /\ type_of% @d2 /\ type_of% @hcut /\ True := ⟨@e7, ⟨@d2, ⟨@hcut, trivial⟩⟩⟩
      refine' stdbb2e8
      all_goals first
        | exact ⟨K - (j + 1), by omega, j + 1, by rw [hj1, Ti, hl1]; simp only [nums, List.map_append, List.map_cons, List.map_nil]; rfl, by omega, rfl⟩
        | trace_state
    · have d2 : decide ((j : Int) < (K : Int)) = false := decide_eq_false (by omega)
      obtain rfl : j = K := by omega
      have nx : type_of% @e2 /\ type_of% @d2 /\ True := ⟨@e2, ⟨@d2, trivial⟩⟩
      refine' stdbb2e8
      all_goals first
        | exact ⟨R, by omega, R, s, l ++ List.replicate j cc, rfl, h11, hjl, by omega, hB, rfl⟩
        | trace_state
end Go.Proofs.YtmomeejfopfchaaDoor
namespace Go.Proofs.YtmomeejfopfchaaDoor
set_option maxRecDepth 20000
open Go Go.Abs Nat
attribute [local irreducible] AW AWL AC FW CW CWr IntKind.wrap
def modC (m : Mod) : List V := [.view m.types.length 2 (m.types.flatMap sigC), .view m.imports.length 3 (m.imports.flatMap impC), .view m.funcs.length 1 (nums .i64 m.funcs), .view m.tables.length 2 (m.tables.flatMap limC), .view m.mems.length 2 (m.mems.flatMap limC), .view m.globals.length 3 (m.globals.flatMap globC), .view m.exports.length 3 (m.exports.flatMap expC), .int .i64 m.start, .view m.elems.length 2 (m.elems.flatMap elemC), .view m.codes.length 2 (m.codes.flatMap codC), .view m.datas.length 2 (m.datas.flatMap dataC)]
def OKS (x : Res Mod) (b : List Int) (en : Nat) (v : V) (mm : Mem) : Prop := match x with
  | .ok (m, t) => v = .tup [] /\ mm = tpM 0 b t en ++ [(1, ⟨false, modC m⟩)]
  | .error _ => False
def ERS (x : Res Mod) (m : Mod) (b : List Int) (en : Nat) (ch : List PanicEntry) (mm : Mem) : Prop := match x with
  | .ok _ => False
  | .error (e, t) => ch = fltE e /\ mm = tpM 0 b t en ++ [(1, ⟨false, modC m⟩)]
theorem MMSec.NM : type_of% @NSX /\ type_of% @St.keepS.eq_1 /\ type_of% @TY /\ type_of% @SLS /\ type_of% @nums_length /\ type_of% @modC.eq_1 :=
  ⟨NSX, St.keepS.eq_1, @TY, @SLS, @nums_length, @modC.eq_1⟩
open MMSec
theorem K1MSec.kp {P : Program} {c : Code} {Q : Exit -> St -> Prop} {st : St} (h : AW P c Q (st.keepS [0, 1, 2, 3, 6])) : AW P c Q st := AW.keepS _ h
theorem K1MSec.cl {p : Prop} (h : p := by
  first
    | refine AWL.cMP (f := 31) [(0, 0)] cb31 rfl rfl rfl rfl rfl rfl rfl (q) ?_ ?_
    | refine AWL.cMP (f := 33) [(0, 0)] cb33 rfl rfl rfl rfl rfl rfl rfl (q) ?_ ?_
    | refine AWL.cMP (f := 35) [(0, 0)] cb35 rfl rfl rfl rfl rfl rfl rfl (q) ?_ ?_
    | refine AWL.cMP (f := 36) [(0, 0), (3, 3)] cb36 rfl rfl rfl rfl rfl rfl rfl (q) ?_ ?_
    | refine AWL.cMP (f := 40) [(0, 0)] cb40 rfl rfl rfl rfl rfl rfl rfl (q) ?_ ?_
    | refine AWL.cMP (f := 42) [(0, 0)] cb42 rfl rfl rfl rfl rfl rfl rfl (q) ?_ ?_
    | refine AWL.cMP (f := 44) [(0, 0)] cb44 rfl rfl rfl rfl rfl rfl rfl (q) ?_ ?_
    | refine AWL.cMP (f := 46) [(0, 0)] cb46 rfl rfl rfl rfl rfl rfl rfl (q) ?_ ?_
    | refine AWL.cMP (f := 48) [(0, 0)] cb48 rfl rfl rfl rfl rfl rfl rfl (q) ?_ ?_
    | refine AWL.cMP (f := 18) [(0, 0)] cb18 rfl rfl rfl rfl rfl rfl rfl (q) ?_ ?_
  all_goals (apply_rules (newGoals := .nonDependentOnly) only [dep])
  all_goals constructor) : p := h
theorem K1MSec.sd {p : Prop} (h : p := by first | exact sd1eb496) : p := h
open K1MSec in
set_option maxHeartbeats 12800000 in
theorem tsec_ok {b : List Int} {p : Int} {en : Nat} (h : okT b p en) (id : Int) (hid : 1 <= id /\ id <= 11) (m : Mod) : AMP Tryd.prog 20 [.ptr 0 0, .int .u8 id, .ptr 1 0] (tpM 0 b p en ++ [(1, ⟨false, modC m⟩)]) [0, 1] (OKS (secT (b.take en) id m p) b en) (ERS (secT (b.take en) id m p) m b en) := by
  obtain ⟨A, hA⟩ : ∃ A, secT (b.take en) id m p = A := ⟨_, rfl⟩
  rw [hA]
  unfold OKS ERS tpM
  have hs : id = 1 \/ id = 2 \/ id = 3 \/ id = 4 \/ id = 5 \/ id = 6 \/ id = 7 \/ id = 8 \/ id = 9 \/ id = 10 \/ id = 11 := by omega
  rcases hs with rfl | hs
  case' inl =>
    have q := rowSig_ok h 256 (by decide) cb32 (one := sigT (b.take en)) (fun t ht => tsig_ok ht) (fun t a q ht hq => (sigT_mv ht hq).1)
    (try simp only [OKR, ERR, OKRx, ERRx, tpM] at q)
    have hA : bnd (rowsT (b.take en) 256 (sigT (b.take en)) p) (fun l t => .ok ({ m with types := l }, t)) = A := hA
    rcases z : rowsT (b.take en) 256 (sigT (b.take en)) p with ⟨e, t⟩ | ⟨l, t⟩
    all_goals
      rw [z] at hA q
      simp only [bnd_ok, bnd_err] at hA q
      subst hA
  case' inr =>
    rcases hs with rfl | hs
    case' inl =>
      have q := rowImp_ok h 512 (by decide) cb34 (one := impT (b.take en)) (fun t ht => timported_ok ht) (fun t a q ht hq => (impT_mv ht hq).1)
      (try simp only [OKR, ERR, OKRx, ERRx, tpM] at q)
      have hA : bnd (rowsT (b.take en) 512 (impT (b.take en)) p) (fun l t => .ok ({ m with imports := l }, t)) = A := hA
      rcases z : rowsT (b.take en) 512 (impT (b.take en)) p with ⟨e, t⟩ | ⟨l, t⟩
      all_goals
        rw [z] at hA q
        simp only [bnd_ok, bnd_err] at hA q
        subst hA
    case' inr =>
      rcases hs with rfl | hs
      case' inl =>
        have q := rowInt_ok h 512 (by decide) cb18 (one := nmT (b.take en)) (fun t ht => tnum_ok ht) (fun t a q ht hq => (nmT_mv ht hq).1)
        (try simp only [OKR, ERR, OKRx, ERRx, tpM] at q)
        have hA : bnd (rowsT (b.take en) 512 (nmT (b.take en)) p) (fun l t => .ok ({ m with funcs := l }, t)) = A := hA
        rcases z : rowsT (b.take en) 512 (nmT (b.take en)) p with ⟨e, t⟩ | ⟨l, t⟩
        all_goals
          rw [z] at hA q
          simp only [bnd_ok, bnd_err, flat_int] at hA q
          subst hA
      case' inr =>
        rcases hs with rfl | hs
        case' inl =>
          have q := rowLim_ok h 512 (by decide) cb37 (one := tabT (b.take en)) (fun t ht => tsec1_ok ht) (fun t a q ht hq => (tabT_mv ht hq).1)
          (try simp only [OKR, ERR, OKRx, ERRx, tpM] at q)
          have hA : bnd (rowsT (b.take en) 512 (tabT (b.take en)) p) (fun l t => .ok ({ m with tables := l }, t)) = A := hA
          rcases z : rowsT (b.take en) 512 (tabT (b.take en)) p with ⟨e, t⟩ | ⟨l, t⟩
          all_goals
            rw [z] at hA q
            simp only [bnd_ok, bnd_err] at hA q
            subst hA
        case' inr =>
          rcases hs with rfl | hs
          case' inl =>
            have q := rowLim_ok h 512 (by decide) cb39 (one := limT (b.take en) 16) (fun t ht => tsec2_ok ht) (fun t a q ht hq => (limT_mv ht hq).1)
            (try simp only [OKR, ERR, OKRx, ERRx, tpM] at q)
            have hA : bnd (rowsT (b.take en) 512 (limT (b.take en) 16) p) (fun l t => .ok ({ m with mems := l }, t)) = A := hA
            rcases z : rowsT (b.take en) 512 (limT (b.take en) 16) p with ⟨e, t⟩ | ⟨l, t⟩
            all_goals
              rw [z] at hA q
              simp only [bnd_ok, bnd_err] at hA q
              subst hA
          case' inr =>
            rcases hs with rfl | hs
            case' inl =>
              have q := rowGlob_ok h 512 (by decide) cb41 (one := globT (b.take en)) (fun t ht => tglobal_ok ht) (fun t a q ht hq => (globT_mv ht hq).1)
              (try simp only [OKR, ERR, OKRx, ERRx, tpM] at q)
              have hA : bnd (rowsT (b.take en) 512 (globT (b.take en)) p) (fun l t => .ok ({ m with globals := l }, t)) = A := hA
              rcases z : rowsT (b.take en) 512 (globT (b.take en)) p with ⟨e, t⟩ | ⟨l, t⟩
              all_goals
                rw [z] at hA q
                simp only [bnd_ok, bnd_err] at hA q
                subst hA
            case' inr =>
              rcases hs with rfl | hs
              case' inl =>
                have q := rowExp_ok h 512 (by decide) cb43 (one := expT (b.take en)) (fun t ht => texport_ok ht) (fun t a q ht hq => (expT_mv ht hq).1)
                (try simp only [OKR, ERR, OKRx, ERRx, tpM] at q)
                have hA : bnd (rowsT (b.take en) 512 (expT (b.take en)) p) (fun l t => .ok ({ m with exports := l }, t)) = A := hA
                rcases z : rowsT (b.take en) 512 (expT (b.take en)) p with ⟨e, t⟩ | ⟨l, t⟩
                all_goals
                  rw [z] at hA q
                  simp only [bnd_ok, bnd_err] at hA q
                  subst hA
              case' inr =>
                rcases hs with rfl | hs
                case' inl =>
                  have q := tnum_ok h
                  unfold TF OKR ERR tpM at q
                  have hA : bnd (nmT (b.take en) p) (fun l t => .ok ({ m with start := l }, t)) = A := hA
                  rcases z : nmT (b.take en) p with ⟨e, t⟩ | ⟨l, t⟩
                  all_goals
                    rw [z] at hA q
                    simp only [bnd_ok, bnd_err] at hA q
                    subst hA
                case' inr =>
                  rcases hs with rfl | hs
                  case' inl =>
                    have q := rowElem_ok h 512 (by decide) cb45 (one := elemT (b.take en)) (fun t ht => telem_ok ht) (fun t a q ht hq => (elemT_mv ht hq).1)
                    (try simp only [OKR, ERR, OKRx, ERRx, tpM] at q)
                    have hA : bnd (rowsT (b.take en) 512 (elemT (b.take en)) p) (fun l t => .ok ({ m with elems := l }, t)) = A := hA
                    rcases z : rowsT (b.take en) 512 (elemT (b.take en)) p with ⟨e, t⟩ | ⟨l, t⟩
                    all_goals
                      rw [z] at hA q
                      simp only [bnd_ok, bnd_err] at hA q
                      subst hA
                  case' inr =>
                    rcases hs with rfl | hs
                    case' inl =>
                      have q := rowCod_ok h 512 (by decide) cb47 (one := codeT (b.take en)) (fun t ht => tcode_ok ht) (fun t a q ht hq => (codeT_mv ht hq).1)
                      (try simp only [OKR, ERR, OKRx, ERRx, tpM] at q)
                      have hA : bnd (rowsT (b.take en) 512 (codeT (b.take en)) p) (fun l t => .ok ({ m with codes := l }, t)) = A := hA
                      rcases z : rowsT (b.take en) 512 (codeT (b.take en)) p with ⟨e, t⟩ | ⟨l, t⟩
                      all_goals
                        rw [z] at hA q
                        simp only [bnd_ok, bnd_err] at hA q
                        subst hA
                    case' inr =>
                      subst hs
                      have q := rowData_ok h 512 (by decide) cb49 (one := dataT (b.take en)) (fun t ht => tdata_ok ht) (fun t a q ht hq => (dataT_mv ht hq).1)
                      (try simp only [OKR, ERR, OKRx, ERRx, tpM] at q)
                      have hA : bnd (rowsT (b.take en) 512 (dataT (b.take en)) p) (fun l t => .ok ({ m with datas := l }, t)) = A := hA
                      rcases z : rowsT (b.take en) 512 (dataT (b.take en)) p with ⟨e, t⟩ | ⟨l, t⟩
                      all_goals
                        rw [z] at hA q
                        simp only [bnd_ok, bnd_err] at hA q
                        subst hA
  all_goals
    clear h
    simp only [modC]
    refine AMP.enter Tryd.func20 rfl (Nat.le_of_ble_eq_true rfl) (fun pn => ?_)
    simp only [Tryd.f20]
    have nx : True := trivial
    refine' st237014
    all_goals first | exact ⟨trivial, trivial⟩ | exact ⟨rfl, trivial⟩ | exact ⟨rfl, rfl⟩ | exact ⟨trivial, rfl⟩ | (exfalso; omega) | trace_state
end Go.Proofs.YtmomeejfopfchaaDoor
