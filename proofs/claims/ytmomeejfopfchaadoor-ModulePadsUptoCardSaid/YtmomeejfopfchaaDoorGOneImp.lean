/- limits, expr. -/
import Derived.Test.YtmomeejfopfchaaDoorDP
import Derived.Test.YtmomeejfopfchaaDoorGTabs
import Derived.Test.YtmomeejfopfchaaDoorGTy
import Derived.Test.YtmomeejfopfchaaDoorCB
import Derived.Test.YtmomeejfopfchaaDoorGMT6
import Derived.Test.YtmomeejfopfchaaDoorMT6w
set_option linter.unusedSimpArgs false
set_option linter.unusedVariables false
namespace Go.Proofs.YtmomeejfopfchaaDoor
set_option maxRecDepth 20000
open Go Go.Abs Nat
theorem cb55 : callable Tryd.prog 55 = true := by kernel_rfl
attribute [local irreducible] AW AWL AC FW CW CWr IntKind.wrap
def limE (x : Int × Int) : V := .agg [.int .i64 x.1, .int .i64 x.2]
def codeE (c : List Ins) : V := .view c.length 6 (codeC c)
theorem cntT_mv {b : List Int} {p : Int} {en : Nat} {most : Int} (h : okT b p en) {n t : Int} (he : cntT (b.take en) most p = .ok (n, t)) : okT b t en /\ p < t /\ 0 <= n /\ n <= most := by
  unfold cntT at he
  rcases hz : nmT (b.take en) p with ⟨e, q⟩ | ⟨m, q⟩
  · rw [hz] at he; simp only [bnd] at he; cases he
  · rw [hz] at he
    obtain ⟨h2, h3, h4⟩ := nmT_mv h hz
    simp only [bnd] at he
    split at he
    · cases he
    · simp only [Except.ok.injEq, Prod.mk.injEq] at he
      obtain ⟨rfl, rfl⟩ := he
      exact ⟨h2, h3, h4.1, by omega⟩
theorem closeS_pos (r : Rd) : (closeS r).2.pos = r.pos := by unfold closeS; split <;> rfl
theorem readL_pos {b : List Int} (hb : bytes b) : ∀ (n : Nat) (r : Rd) (l code : List Ins) (to : Int), okRd b r -> readL b n r l = (code, to, 0) -> r.pos + 1 <= to /\ to <= b.length
  | 0, r, l, code, to, _, h => by rw [readL] at h; simp at h
  | n + 1, r, l, code, to, hr, h => by
    obtain ⟨h1, h2⟩ := instrS_adv hb hr
    rw [readL] at h
    split at h
    · rename_i c
      simp only [Prod.mk.injEq] at h
      exact absurd h.2.2 c
    · rename_i c
      have h2 := h2 (Classical.not_not.1 c)
      have ho : okRd b (closeS (instrS b r).2).2 := ⟨by rw [closeS_pos]; exact h1.ok.p0, by rw [closeS_pos]; exact h1.ok.p1⟩
      split at h
      · split at h
        · simp only [Prod.mk.injEq] at h
          obtain ⟨_, rfl, _⟩ := h
          exact ⟨by rw [closeS_pos]; exact h2, ho.p1⟩
        · have := readL_pos hb n _ _ code to ho h
          rw [closeS_pos] at this
          omega
      · have := readL_pos hb n _ _ code to h1.ok h
        omega
theorem exprT_mv {b : List Int} {p : Int} {en : Nat} (h : okT b p en) {c : List Ins} {t : Int} (he : exprT (b.take en) p = .ok (c, t)) : okT b t en /\ p < t := by
  unfold exprT at he
  split at he
  · cases he
  · rename_i c0
    simp only [Except.ok.injEq, Prod.mk.injEq] at he
    obtain ⟨rfl, rfl⟩ := he
    have h1 : ¬ (p < 0 \/ p > ((b.take en).length : Int)) := by rw [h.len]; have := h.p0; have := h.p1; omega
    have c0 := Classical.not_not.1 c0
    have hr : readS (b.take en) p = readL (b.take en) ((b.take en).length + 1) ⟨p, [], [], 0⟩ [] := if_neg h1
    rw [hr] at c0 ⊢
    have := readL_pos h.byt _ _ _ _ _ ⟨h.p0, by rw [h.len]; exact h.p1⟩ (Prod.ext rfl (Prod.ext rfl c0))
    generalize readL (b.take en) ((b.take en).length + 1) ⟨p, [], [], 0⟩ [] = z at this ⊢
    obtain ⟨z1, z2, z3⟩ := z
    rw [h.len] at this
    simp only at this ⊢
    exact ⟨h.mv (by omega) this.2, by omega⟩
theorem MMT8.NM : type_of% @NSX /\ type_of% @St.keepS.eq_1 /\ type_of% @TY /\ type_of% @SLS /\ type_of% @nums_length :=
  ⟨NSX, St.keepS.eq_1, @TY, @SLS, @nums_length⟩
open MMT8
theorem K1MT8.kp {P : Program} {c : Code} {Q : Exit -> St -> Prop} {st : St} (h : AW P c Q (st.keepS [0, 1, 4, 5, 6])) : AW P c Q st := AW.keepS _ h
theorem K1MT8.cl {p : Prop} (h : p := by
  first
    | refine AWL.cMP (f := 27) [] cb27 rfl rfl rfl rfl rfl rfl rfl (hfail) ?_ ?_
    | refine AWL.cMP (f := 18) [(0, 0)] cb18 rfl rfl rfl rfl rfl rfl rfl (hnum) ?_ ?_
    | refine AWL.cMP (f := 52) [(0, 0)] cb52 rfl rfl rfl rfl rfl rfl rfl (hcount) ?_ ?_
    | refine AWL.cMP (f := 16) [(0, 0)] cb16 rfl rfl rfl rfl rfl rfl rfl (hbyte) ?_ ?_
    | refine AWL.frzG rfl rfl rfl ?_
  all_goals (apply_rules (newGoals := .nonDependentOnly) only [dep])
  all_goals constructor) : p := h
theorem K1MT8.sd {p : Prop} (h : p := by first | exact sd1eb496) : p := h
theorem K2MT8.kp {P : Program} {c : Code} {Q : Exit -> St -> Prop} {st : St} (h : AW P c Q (st.keepS [0, 2, 3, 4, 5])) : AW P c Q st := AW.keepS _ h
theorem K2MT8.cl {p : Prop} (h : p := by
  first
    | refine AWL.cMP (f := 27) [] cb27 rfl rfl rfl rfl rfl rfl rfl (hfail) ?_ ?_
    | refine AWL.frzG rfl rfl rfl ?_
    | refine AWL.cC (f := 55) cb55 rfl rfl rfl rfl rfl rfl (hread) ?_
  all_goals (apply_rules (newGoals := .nonDependentOnly) only [dep])
  all_goals constructor) : p := h
theorem K2MT8.sd {p : Prop} (h : p := by first | exact sd1eb496) : p := h
open K1MT8 in
set_option maxHeartbeats 1600000 in
theorem tlim_ok {b : List Int} {p : Int} {en : Nat} (h : okT b p en) (most : Int) : TF 38 [.int .i64 most] b en p (limT (b.take en) most p) limE := by
  have hbyte := tbyte_ok h
  have hbm := fun n t => byteT_mv h (n := n) (t := t)
  have hfail := fail_ok 10
  have hcount : True := trivial
  have hnum : True := trivial
  obtain ⟨A, hA⟩ : ∃ A, limT (b.take en) most p = A := ⟨_, rfl⟩
  rw [hA]
  unfold limT at hA
  unfold TF OKR ERR tpM at hbyte
  unfold TF OKR ERR tpM
  rcases hz : byteT (b.take en) p with ⟨e, t⟩ | ⟨f, t⟩
  all_goals
    rw [hz] at hA hbyte hbm
    simp only [bnd] at hA hbyte
  · subst hA
    refine AMP.enter Tryd.func38 rfl (Nat.le_of_ble_eq_true rfl) (fun pn => ?_)
    simp only [Tryd.f38]
    have nx : True := trivial
    refine' stfd9c13
    all_goals first | exact ⟨trivial, trivial⟩ | exact ⟨rfl, trivial⟩ | exact ⟨rfl, rfl⟩ | exact ⟨trivial, rfl⟩ | (exfalso; omega) | trace_state
  obtain ⟨h2, h3, h4⟩ := hbm _ _ rfl
  by_cases c : f > 1
  · rw [if_pos c] at hA
    subst hA
    refine AMP.enter Tryd.func38 rfl (Nat.le_of_ble_eq_true rfl) (fun pn => ?_)
    simp only [Tryd.f38]
    have nx : True := trivial
    refine' stfd9c13
    all_goals first | exact ⟨trivial, trivial⟩ | exact ⟨rfl, trivial⟩ | exact ⟨rfl, rfl⟩ | exact ⟨trivial, rfl⟩ | (exfalso; omega) | trace_state
  rw [if_neg c] at hA
  have hcount := tcount_ok h2 most
  have hcm := fun n q => cntT_mv h2 (most := most) (n := n) (t := q)
  unfold TF OKR ERR tpM at hcount
  rcases hz2 : cntT (b.take en) most t with ⟨e, q⟩ | ⟨n, q⟩
  all_goals
    rw [hz2] at hA hcount hcm
    simp only at hA hcount
  · subst hA
    refine AMP.enter Tryd.func38 rfl (Nat.le_of_ble_eq_true rfl) (fun pn => ?_)
    simp only [Tryd.f38]
    have nx : True := trivial
    refine' stfd9c13
    all_goals first | exact ⟨trivial, trivial⟩ | exact ⟨rfl, trivial⟩ | exact ⟨rfl, rfl⟩ | exact ⟨trivial, rfl⟩ | (exfalso; omega) | trace_state
  obtain ⟨h5, h6, h7⟩ := hcm _ _ rfl
  by_cases c1 : f = 1
  case neg =>
    rw [if_neg c1] at hA
    subst hA
    have d1 : (f == 1) = false := by rw [beq_eq_false_iff_ne]; exact c1
    unfold limE
    refine AMP.enter Tryd.func38 rfl (Nat.le_of_ble_eq_true rfl) (fun pn => ?_)
    simp only [Tryd.f38]
    have nx : type_of% @d1 /\ True := ⟨@d1, trivial⟩
    refine' stfd9c13
    all_goals first | exact ⟨trivial, trivial⟩ | exact ⟨rfl, trivial⟩ | exact ⟨rfl, rfl⟩ | exact ⟨trivial, rfl⟩ | (exfalso; omega) | trace_state
  rw [if_pos c1] at hA
  subst c1
  have hnum := tnum_ok h5
  unfold TF OKR ERR tpM at hnum
  rcases hz3 : nmT (b.take en) q with ⟨e, r⟩ | ⟨x, r⟩
  all_goals
    rw [hz3] at hA hnum
    simp only at hA hnum
    subst hA
    (try unfold limE)
    refine AMP.enter Tryd.func38 rfl (Nat.le_of_ble_eq_true rfl) (fun pn => ?_)
    simp only [Tryd.f38]
    have nx : True := trivial
    refine' stfd9c13
    all_goals first | exact ⟨trivial, trivial⟩ | exact ⟨rfl, trivial⟩ | exact ⟨rfl, rfl⟩ | exact ⟨trivial, rfl⟩ | (exfalso; omega) | trace_state
open K2MT8 in
set_option maxHeartbeats 1600000 in
theorem texpr_ok {b : List Int} {p : Int} {en : Nat} (h : okT b p en) : TF 54 [] b en p (exprT (b.take en) p) codeE := by
  have hl := h.hl; have he := h.he
  have hread := eread_ok (b.take en) h.byt (by rw [h.len]; omega) p
  have hlen := h.len
  have htk : List.take en (nums .u8 b) = nums .u8 (b.take en) := by simp only [nums, List.map_take]
  obtain ⟨A, hA⟩ : ∃ A, exprT (b.take en) p = A := ⟨_, rfl⟩
  rw [hA]
  unfold exprT at hA
  rw [hlen] at hread
  generalize readS (b.take en) p = z at hread hA
  obtain ⟨c, to, e⟩ := z
  simp only at hread hA
  have hfail := fail_ok e
  unfold TF OKR ERR tpM
  by_cases c1 : e ≠ 0
  · rw [if_pos c1] at hA
    subst hA
    refine AMP.enter Tryd.func54 rfl (Nat.le_of_ble_eq_true rfl) (fun pn => ?_)
    simp only [Tryd.f54]
    have nx : type_of% @htk /\ True := ⟨@htk, trivial⟩
    refine' st199f17
    all_goals first | exact ⟨trivial, trivial⟩ | exact ⟨rfl, trivial⟩ | exact ⟨rfl, rfl⟩ | exact ⟨trivial, rfl⟩ | (exfalso; omega) | trace_state
  · rw [if_neg c1] at hA
    subst hA
    unfold codeE
    refine AMP.enter Tryd.func54 rfl (Nat.le_of_ble_eq_true rfl) (fun pn => ?_)
    simp only [Tryd.f54]
    have nx : type_of% @htk /\ True := ⟨@htk, trivial⟩
    refine' st199f17
    all_goals first | exact ⟨trivial, trivial⟩ | exact ⟨rfl, trivial⟩ | exact ⟨rfl, rfl⟩ | exact ⟨trivial, rfl⟩ | (exfalso; omega) | trace_state
end Go.Proofs.YtmomeejfopfchaaDoor
namespace Go.Proofs.YtmomeejfopfchaaDoor
set_option maxRecDepth 20000
open Go Go.Abs
def OKRx {α : Type} (x : Res α) (enc : α -> V) (b : List Int) (en : Nat) (v : V) (m : Mem) : Prop := match x with
  | .ok (a, t) => v = enc a /\ m = tpM 0 b t en ++ [(3, ⟨false, [.ptr 0 0]⟩)]
  | .error _ => False
def ERRx {α : Type} (x : Res α) (b : List Int) (en : Nat) (ch : List PanicEntry) (m : Mem) : Prop := match x with
  | .ok _ => False
  | .error (e, t) => ch = fltE e /\ m = tpM 0 b t en ++ [(3, ⟨false, [.ptr 0 0]⟩)]
theorem bnd_nil {α : Type} (x : Res (List α)) : bnd x (fun r t => .ok ([] ++ r, t)) = x := by
  rcases x with e | ⟨a, t⟩ <;> rfl
theorem bnd_app {α : Type} (x : Res (List α)) (l : List α) (a : α) : bnd (bnd x fun r t => .ok (a :: r, t)) (fun r t => .ok (l ++ r, t)) = bnd x (fun r t => .ok (l ++ [a] ++ r, t)) := by
  rcases x with e | ⟨r, t⟩
  · rfl
  · simp [bnd]
theorem flat_len {α : Type} {f : α -> List V} {k : Nat} (hf : ∀ x, (f x).length = k) (l : List α) : (l.flatMap f).length = l.length * k := by
  induction l with
  | nil => simp
  | cons x l ih => rw [List.flatMap_cons, List.length_append, hf, ih, List.length_cons, Nat.succ_mul]; omega
theorem flat_snoc {α : Type} {f : α -> List V} (l : List α) (x : α) : (l ++ [x]).flatMap f = l.flatMap f ++ f x := by simp
end Go.Proofs.YtmomeejfopfchaaDoor
namespace Go.Proofs.YtmomeejfopfchaaDoor
set_option maxRecDepth 20000
open Go Go.Abs Nat
attribute [local irreducible] AW AWL AC FW CW CWr IntKind.wrap
theorem byte_str2 {l : List Int} (h : bytes l) : nums .u8 l = ((nums .u8 l).map Abs.byteOf).map byteV := by
  induction l with
  | nil => rfl
  | cons x l ih =>
    have hx := h x (List.mem_cons_self ..)
    have := ih (fun y hy => h y (List.mem_cons_of_mem _ hy))
    simp only [nums, List.map_cons] at this ⊢
    rw [<- this]
    congr 1
    unfold byte at hx
    have e : (UInt8.ofNat x.toNat).toNat = x.toNat := by
      rw [UInt8.toNat_ofNat']; exact Nat.mod_eq_of_lt (by omega)
    simp only [Abs.byteOf, byteV, e, Int.toNat_of_nonneg hx.1]
theorem partT_mv {b : List Int} {p : Int} {en : Nat} (h : okT b p en) {s t : Int} (he : partT (b.take en) p = .ok (s, t)) : okT b t en /\ p < s /\ s <= t := by
  unfold partT at he
  rcases hz : nmT (b.take en) p with ⟨e, q⟩ | ⟨n, q⟩
  · rw [hz] at he; simp only [bnd] at he; cases he
  · rw [hz] at he
    obtain ⟨h2, h3, h4⟩ := nmT_mv h hz
    simp only [bnd, partN, h.len] at he
    split at he
    · cases he
    · simp only [Except.ok.injEq, Prod.mk.injEq] at he
      obtain ⟨rfl, rfl⟩ := he
      exact ⟨h2.mv (by omega) (by omega), h3, by omega⟩
theorem bytesT_mv {b : List Int} {p : Int} {en : Nat} (h : okT b p en) {l : List Int} {t : Int} (he : bytesT (b.take en) p = .ok (l, t)) : okT b t en /\ p < t /\ bytes l /\ l.length <= b.length := by
  unfold bytesT at he
  rcases hz : partT (b.take en) p with ⟨e, q⟩ | ⟨n, q⟩
  · rw [hz] at he; simp only [bnd] at he; cases he
  · rw [hz] at he
    obtain ⟨h2, h3, h4⟩ := partT_mv h hz
    simp only [bnd, Except.ok.injEq, Prod.mk.injEq] at he
    obtain ⟨rfl, rfl⟩ := he
    exact ⟨h2, by omega, fun x hx => h.byt x (List.mem_of_mem_drop (List.mem_of_mem_take hx)), by rw [List.length_take, List.length_drop, h.len]; have := h.he; omega⟩
theorem MMT7.NM : type_of% @NSX /\ type_of% @St.keepS.eq_1 /\ type_of% @TY /\ type_of% @SLS /\ type_of% @nums_length :=
  ⟨NSX, St.keepS.eq_1, @TY, @SLS, @nums_length⟩
open MMT7
theorem K1MT7.kp {P : Program} {c : Code} {Q : Exit -> St -> Prop} {st : St} (h : AW P c Q (st.keepS [0, 2, 3])) : AW P c Q st := AW.keepS _ h
theorem K1MT7.cl {p : Prop} (h : p := by
  first
    | refine AWL.cMP (f := 27) [] cb27 rfl rfl rfl rfl rfl rfl rfl (hfail) ?_ ?_
    | refine AWL.cMP (f := 29) [(0, 0)] cb29 rfl rfl rfl rfl rfl rfl rfl (hbytes) ?_ ?_
    | refine AWL.frzG rfl rfl rfl ?_
    | refine AWL.cC (f := 30) cb30 rfl rfl rfl rfl rfl rfl (hval) ?_
  all_goals (apply_rules (newGoals := .nonDependentOnly) only [dep])
  all_goals constructor) : p := h
theorem K1MT7.sd {p : Prop} (h : p := by first | exact sd3e4394) : p := h
open K1MT7 in
set_option maxHeartbeats 1600000 in
theorem tname_ok {b : List Int} {p : Int} {en : Nat} (h : okT b p en) : TF 19 [] b en p (nameT (b.take en) p) .str := by
  have hbytes := tbytes_ok h
  have hfail := fail_ok 10
  have hbm := fun l t => bytesT_mv h (l := l) (t := t)
  obtain ⟨A, hA⟩ : ∃ A, nameT (b.take en) p = A := ⟨_, rfl⟩
  rw [hA]
  unfold nameT at hA
  unfold TF OKR ERR tpM at hbytes
  unfold TF OKR ERR tpM
  rcases hz : bytesT (b.take en) p with ⟨e, t⟩ | ⟨l, t⟩
  all_goals
    rw [hz] at hA hbytes hbm
    simp only [bnd] at hA hbytes
  · subst hA
    have hval : True := trivial
    refine AMP.enter Tryd.func19 rfl (Nat.le_of_ble_eq_true rfl) (fun pn => ?_)
    simp only [Tryd.f19]
    have nx : True := trivial
    refine' stfd9c13
    all_goals first | exact ⟨trivial, trivial⟩ | exact ⟨rfl, trivial⟩ | exact ⟨rfl, rfl⟩ | exact ⟨trivial, rfl⟩ | (exfalso; omega) | trace_state
  · obtain ⟨_, _, hby, hll⟩ := hbm _ _ rfl
    have hval := valid_ok l hby (by have := h.hl; omega)
    rcases hv : validS l with _ | _
    · rw [hv] at hval
      rw [if_neg (by rw [hv]; decide)] at hA
      subst hA
      refine AMP.enter Tryd.func19 rfl (Nat.le_of_ble_eq_true rfl) (fun pn => ?_)
      simp only [Tryd.f19]
      have nx : True := trivial
      refine' stfd9c13
      all_goals first | exact ⟨trivial, trivial⟩ | exact ⟨rfl, trivial⟩ | exact ⟨rfl, rfl⟩ | exact ⟨trivial, rfl⟩ | (exfalso; omega) | trace_state
    · rw [hv] at hval
      rw [if_pos hv] at hA
      subst hA
      unfold toS
      refine AMP.enter Tryd.func19 rfl (Nat.le_of_ble_eq_true rfl) (fun pn => ?_)
      simp only [Tryd.f19]
      have nx : True := trivial
      refine' stfd9c13
      all_goals first | exact ⟨trivial, trivial⟩ | exact ⟨rfl, trivial⟩ | exact ⟨rfl, rfl⟩ | exact ⟨trivial, rfl⟩ | (exfalso; omega) | trace_state
end Go.Proofs.YtmomeejfopfchaaDoor
namespace Go.Proofs.YtmomeejfopfchaaDoor
set_option maxRecDepth 20000
open Go Go.Abs Nat
attribute [local irreducible] AW AWL AC FW CW CWr IntKind.wrap
def sigC : MSig -> List V
  | ⟨xi, xo⟩ => [.view xi.length 1 (nums .i64 xi), .view xo.length 1 (nums .i64 xo)]
theorem sigC_len (x : MSig) : (sigC x).length = 2 := rfl
def TSig (pn : Nat -> Option BI) (f1 : FuncId) (b : List Int) (en : Nat) (t : Int) (l : List MSig) (n : Nat) : St := { n := 22, slots := [(0, .ptr 0 0), (2, .fn f1 [.ptr 0 0]), (7, .ref 7 0 l.length 2), (8, .int .i64 (n : Int))], mem := [(0, ⟨false, [.view b.length 1 (nums .u8 b), .int .i64 t, .int .i64 en]⟩), (7, ⟨true, l.flatMap sigC⟩)], lent := [(0, pn 0)] }
theorem MRowSig.NM : type_of% @NSX /\ type_of% @St.keepS.eq_1 /\ type_of% @TY /\ type_of% @SLS /\ type_of% @nums_length /\ type_of% @TSig.eq_1 :=
  ⟨NSX, St.keepS.eq_1, @TY, @SLS, @nums_length, @TSig.eq_1⟩
open MRowSig
theorem K1RowSig.kp {P : Program} {c : Code} {Q : Exit -> St -> Prop} {st : St} (h : AW P c Q (st.keepS [0, 1, 2, 6, 7, 8])) : AW P c Q st := AW.keepS _ h
theorem K1RowSig.cl {p : Prop} (h : p := by
  first
    | refine AWL.cMP (f := 52) [(0, 0)] cb52 rfl rfl rfl rfl rfl rfl rfl (hcount) ?_ ?_
    | refine AWL.cFP [(0, 0)] rfl rfl rfl rfl hcb rfl rfl rfl rfl (hone) ?_ ?_
  all_goals (apply_rules (newGoals := .nonDependentOnly) only [dep])
  all_goals constructor) : p := h
theorem K1RowSig.rt {p : Prop} (h : p := by
  first | (refine AW.frzRet 6 rfl rfl ?_; (try (conv => arg -1; simp (disch := omega) only [NM, Nat.reduceBEq, reduceAdd, reduceMul, Int.reduceToNat, reduceSub, List.set_cons_zero, List.set_cons_succ, nx])))
  all_goals (apply_rules (newGoals := .nonDependentOnly) only [dep])
  all_goals constructor) : p := h
theorem K1RowSig.sd {p : Prop} (h : p := by first | exact sd1eb496) : p := h
open K1RowSig in
set_option maxHeartbeats 6400000 in
theorem rowSig_ok {b : List Int} {p : Int} {en : Nat} (h : okT b p en) (most : Int) (hm : most <= 100000) {f1 : FuncId} (hcb : callable Tryd.prog f1 = true) {one : Int -> Res MSig}
    (hone : ∀ t, okT b t en -> AMP Tryd.prog f1 [.ptr 0 0] (tpM 0 b t en) [0] (OKR (one t) (fun x => .agg (sigC x)) b en) (ERR (one t) b en))
    (hmv : ∀ t a q, okT b t en -> one t = .ok (a, q) -> okT b q en) :
    AMP Tryd.prog 31 [.ptr 0 0, .int .i64 most, .fn f1 [.ptr 0 0]] (tpM 0 b p en) [0] (OKR (rowsT (b.take en) most one p) (fun l => .view l.length 2 (l.flatMap sigC)) b en) (ERR (rowsT (b.take en) most one p) b en) := by
  have hcount := tcount_ok h most
  have hcm := fun n q => cntT_mv h (most := most) (n := n) (t := q)
  obtain ⟨A, hA⟩ : ∃ A, rowsT (b.take en) most one p = A := ⟨_, rfl⟩
  rw [hA]
  unfold rowsT at hA
  unfold TF OKR ERR tpM at hcount
  unfold OKR ERR tpM at hone
  unfold OKR ERR tpM
  rcases hz : cntT (b.take en) most p with ⟨e, q⟩ | ⟨n, q⟩
  all_goals
    rw [hz] at hA hcount hcm
    simp only [bnd_ok, bnd_err] at hA hcount
    refine AMP.enter Tryd.func31 rfl (Nat.le_of_ble_eq_true rfl) (fun pn => ?_)
    simp only [Tryd.f31]
  · subst hA
    have nx : True := trivial
    refine' stdbb2e8
    all_goals first | exact ⟨trivial, trivial⟩ | exact ⟨rfl, trivial⟩ | exact ⟨rfl, rfl⟩ | exact ⟨trivial, rfl⟩ | (exfalso; omega) | trace_state
  obtain ⟨h2, h3, h4⟩ := hcm _ _ rfl
  obtain ⟨n0, rfl⟩ : ∃ n0 : Nat, n = n0 := ⟨n.toNat, by omega⟩
  have hA : bnd (rowT one n0 q) (fun r t => .ok ([] ++ r, t)) = A := by rw [<- hA, Int.toNat_natCast]; exact bnd_nil _
  have hn0 : n0 <= 100000 := by omega
  clear hcm hz h4
  have nx : True := trivial
  refine' stdbb2e8
  refine AW.loop [0, 2, 7, 8] [0, 7] (fun m st => ∃ (n : Nat) (t : Int) (l : List MSig), st = TSig pn f1 b en t l n /\ okT b t en /\ l.length + n = n0 /\ bnd (rowT one n t) (fun r t => .ok (l ++ r, t)) = A /\ n = m) ?_ ?_
  · exact ⟨_, n0, q, [], rfl, h2, by simp, hA, rfl⟩
  rintro m st ⟨n, t, l, rfl, ht, hln, hA, rfl⟩
  clear hcount
  rcases n with _ | n
  · rw [rowT] at hA
    simp only [bnd_ok, List.append_nil] at hA
    subst hA
    have hcut : List.take (l.length * 2) (l.flatMap sigC) = l.flatMap sigC := List.take_of_length_le (by rw [flat_len sigC_len]; omega)
    have nx : type_of% @hcut /\ True := ⟨@hcut, trivial⟩
    refine' stdbb2e8
    all_goals first | exact ⟨trivial, trivial⟩ | exact ⟨rfl, trivial⟩ | exact ⟨rfl, rfl⟩ | exact ⟨trivial, rfl⟩ | (exfalso; omega) | trace_state
  · have hone := hone t ht
    have hmv := hmv t
    have e1 : IntKind.i64.wrap (((n + 1 : Nat) : Int) - 1) = (n : Int) := by rw [wrap64_id _ (by omega) (by omega)]; omega
    have d1 : decide (((n + 1 : Nat) : Int) > 0) = true := decide_eq_true (by omega)
    have hcut : List.take (l.length * 2) (l.flatMap sigC) = l.flatMap sigC := List.take_of_length_le (by rw [flat_len sigC_len]; omega)
    rw [rowT] at hA
    rcases hz1 : one t with ⟨e, q⟩ | ⟨x, q⟩
    all_goals
      rw [hz1] at hA hone
      simp only [bnd_ok, bnd_err] at hA hone
    · subst hA
      have nx : type_of% @e1 /\ type_of% @d1 /\ type_of% @hcut /\ True := ⟨@e1, ⟨@d1, ⟨@hcut, trivial⟩⟩⟩
      refine' stdbb2e8
      all_goals first | exact ⟨trivial, trivial⟩ | exact ⟨rfl, trivial⟩ | exact ⟨rfl, rfl⟩ | exact ⟨trivial, rfl⟩ | (exfalso; omega) | trace_state
    · have ht2 := hmv _ _ ht hz1
      rw [bnd_app] at hA
      have hl2 : (l ++ [x]).length = l.length + 1 := by simp
      obtain ⟨xi, xo⟩ := x
      have hs2 : l.flatMap sigC ++ [.view xi.length 1 (nums .i64 xi), .view xo.length 1 (nums .i64 xo)] = (l ++ ([⟨xi, xo⟩] : List MSig)).flatMap sigC := (flat_snoc (f := sigC) l (⟨xi, xo⟩ : MSig)).symm
      (try unfold sigC at hone)
      have nx : type_of% @e1 /\ type_of% @d1 /\ type_of% @hcut /\ True := ⟨@e1, ⟨@d1, ⟨@hcut, trivial⟩⟩⟩
      refine' stdbb2e8
      all_goals first
        | exact ⟨n, by omega, n, q, l ++ [⟨xi, xo⟩], by rw [TSig, hl2, <- hs2]; rfl, ht2, by rw [hl2]; omega, hA, rfl⟩
        | trace_state
end Go.Proofs.YtmomeejfopfchaaDoor
namespace Go.Proofs.YtmomeejfopfchaaDoor
set_option maxRecDepth 20000
open Go Go.Abs Nat
attribute [local irreducible] AW AWL AC FW CW CWr IntKind.wrap
theorem byImp (h : 73 < Tryd.prog.types.size) : (Tryd.prog.types[73]'h).bytes = 40 := by kernel_rfl
def impC : MImp -> List V
  | ⟨xm, xn, xt⟩ => [.str xm, .str xn, .int .i64 xt]
theorem impC_len (x : MImp) : (impC x).length = 3 := rfl
def TImp (pn : Nat -> Option BI) (f1 : FuncId) (b : List Int) (en : Nat) (t : Int) (l : List MImp) (n : Nat) : St := { n := 22, slots := [(0, .ptr 0 0), (2, .fn f1 [.ptr 0 0]), (7, .ref 7 0 l.length 3), (8, .int .i64 (n : Int))], mem := [(0, ⟨false, [.view b.length 1 (nums .u8 b), .int .i64 t, .int .i64 en]⟩), (7, ⟨true, l.flatMap impC⟩)], lent := [(0, pn 0)] }
theorem MRowImp.NM : type_of% @NSX /\ type_of% @St.keepS.eq_1 /\ type_of% @TY /\ type_of% @SLS /\ type_of% @nums_length /\ type_of% @TImp.eq_1 :=
  ⟨NSX, St.keepS.eq_1, @TY, @SLS, @nums_length, @TImp.eq_1⟩
open MRowImp
theorem K1RowImp.kp {P : Program} {c : Code} {Q : Exit -> St -> Prop} {st : St} (h : AW P c Q (st.keepS [0, 1, 2, 6, 7, 8])) : AW P c Q st := AW.keepS _ h
theorem K1RowImp.cl {p : Prop} (h : p := by
  first
    | refine AWL.cMP (f := 52) [(0, 0)] cb52 rfl rfl rfl rfl rfl rfl rfl (hcount) ?_ ?_
    | refine AWL.cFP [(0, 0)] rfl rfl rfl rfl hcb rfl rfl rfl rfl (hone) ?_ ?_
  all_goals (apply_rules (newGoals := .nonDependentOnly) only [dep])
  all_goals constructor) : p := h
theorem K1RowImp.rt {p : Prop} (h : p := by
  first | (refine AW.frzRet 6 rfl rfl ?_; (try (conv => arg -1; simp (disch := omega) only [NM, Nat.reduceBEq, reduceAdd, reduceMul, Int.reduceToNat, reduceSub, List.set_cons_zero, List.set_cons_succ, nx])))
  all_goals (apply_rules (newGoals := .nonDependentOnly) only [dep])
  all_goals constructor) : p := h
theorem K1RowImp.sd {p : Prop} (h : p := by first | exact sdf90f17) : p := h
open K1RowImp in
set_option maxHeartbeats 6400000 in
theorem rowImp_ok {b : List Int} {p : Int} {en : Nat} (h : okT b p en) (most : Int) (hm : most <= 100000) {f1 : FuncId} (hcb : callable Tryd.prog f1 = true) {one : Int -> Res MImp}
    (hone : ∀ t, okT b t en -> AMP Tryd.prog f1 [.ptr 0 0] (tpM 0 b t en) [0] (OKR (one t) (fun x => .agg (impC x)) b en) (ERR (one t) b en))
    (hmv : ∀ t a q, okT b t en -> one t = .ok (a, q) -> okT b q en) :
    AMP Tryd.prog 33 [.ptr 0 0, .int .i64 most, .fn f1 [.ptr 0 0]] (tpM 0 b p en) [0] (OKR (rowsT (b.take en) most one p) (fun l => .view l.length 3 (l.flatMap impC)) b en) (ERR (rowsT (b.take en) most one p) b en) := by
  have hcount := tcount_ok h most
  have hcm := fun n q => cntT_mv h (most := most) (n := n) (t := q)
  obtain ⟨A, hA⟩ : ∃ A, rowsT (b.take en) most one p = A := ⟨_, rfl⟩
  rw [hA]
  unfold rowsT at hA
  unfold TF OKR ERR tpM at hcount
  unfold OKR ERR tpM at hone
  unfold OKR ERR tpM
  rcases hz : cntT (b.take en) most p with ⟨e, q⟩ | ⟨n, q⟩
  all_goals
    rw [hz] at hA hcount hcm
    simp only [bnd_ok, bnd_err] at hA hcount
    refine AMP.enter Tryd.func33 rfl (Nat.le_of_ble_eq_true rfl) (fun pn => ?_)
    simp only [Tryd.f33]
  · subst hA
    have nx : True := trivial
    refine' stdbb2e8
    all_goals first | exact ⟨trivial, trivial⟩ | exact ⟨rfl, trivial⟩ | exact ⟨rfl, rfl⟩ | exact ⟨trivial, rfl⟩ | (exfalso; omega) | trace_state
  obtain ⟨h2, h3, h4⟩ := hcm _ _ rfl
  obtain ⟨n0, rfl⟩ : ∃ n0 : Nat, n = n0 := ⟨n.toNat, by omega⟩
  have hA : bnd (rowT one n0 q) (fun r t => .ok ([] ++ r, t)) = A := by rw [<- hA, Int.toNat_natCast]; exact bnd_nil _
  have hn0 : n0 <= 100000 := by omega
  clear hcm hz h4
  have nx : True := trivial
  refine' stdbb2e8
  refine AW.loop [0, 2, 7, 8] [0, 7] (fun m st => ∃ (n : Nat) (t : Int) (l : List MImp), st = TImp pn f1 b en t l n /\ okT b t en /\ l.length + n = n0 /\ bnd (rowT one n t) (fun r t => .ok (l ++ r, t)) = A /\ n = m) ?_ ?_
  · exact ⟨_, n0, q, [], rfl, h2, by simp, hA, rfl⟩
  rintro m st ⟨n, t, l, rfl, ht, hln, hA, rfl⟩
  clear hcount
  rcases n with _ | n
  · rw [rowT] at hA
    simp only [bnd_ok, List.append_nil] at hA
    subst hA
    have hcut : List.take (l.length * 3) (l.flatMap impC) = l.flatMap impC := List.take_of_length_le (by rw [flat_len impC_len]; omega)
    have nx : type_of% @hcut /\ True := ⟨@hcut, trivial⟩
    refine' stdbb2e8
    all_goals first | exact ⟨trivial, trivial⟩ | exact ⟨rfl, trivial⟩ | exact ⟨rfl, rfl⟩ | exact ⟨trivial, rfl⟩ | (exfalso; omega) | trace_state
  · have hone := hone t ht
    have hmv := hmv t
    have e1 : IntKind.i64.wrap (((n + 1 : Nat) : Int) - 1) = (n : Int) := by rw [wrap64_id _ (by omega) (by omega)]; omega
    have d1 : decide (((n + 1 : Nat) : Int) > 0) = true := decide_eq_true (by omega)
    have hcut : List.take (l.length * 3) (l.flatMap impC) = l.flatMap impC := List.take_of_length_le (by rw [flat_len impC_len]; omega)
    rw [rowT] at hA
    rcases hz1 : one t with ⟨e, q⟩ | ⟨x, q⟩
    all_goals
      rw [hz1] at hA hone
      simp only [bnd_ok, bnd_err] at hA hone
    · subst hA
      have nx : type_of% @e1 /\ type_of% @d1 /\ type_of% @hcut /\ True := ⟨@e1, ⟨@d1, ⟨@hcut, trivial⟩⟩⟩
      refine' stdbb2e8
      all_goals first | exact ⟨trivial, trivial⟩ | exact ⟨rfl, trivial⟩ | exact ⟨rfl, rfl⟩ | exact ⟨trivial, rfl⟩ | (exfalso; omega) | trace_state
    · have ht2 := hmv _ _ ht hz1
      rw [bnd_app] at hA
      have hl2 : (l ++ [x]).length = l.length + 1 := by simp
      obtain ⟨xm, xn, xt⟩ := x
      have hs2 : l.flatMap impC ++ [.str xm, .str xn, .int .i64 xt] = (l ++ ([⟨xm, xn, xt⟩] : List MImp)).flatMap impC := (flat_snoc (f := impC) l (⟨xm, xn, xt⟩ : MImp)).symm
      (try unfold impC at hone)
      have nx : type_of% @e1 /\ type_of% @d1 /\ type_of% @hcut /\ True := ⟨@e1, ⟨@d1, ⟨@hcut, trivial⟩⟩⟩
      refine' stdbb2e8
      all_goals first
        | exact ⟨n, by omega, n, q, l ++ [⟨xm, xn, xt⟩], by rw [TImp, hl2, <- hs2]; rfl, ht2, by rw [hl2]; omega, hA, rfl⟩
        | trace_state
end Go.Proofs.YtmomeejfopfchaaDoor
namespace Go.Proofs.YtmomeejfopfchaaDoor
set_option maxRecDepth 20000
open Go Go.Abs Nat
attribute [local irreducible] AW AWL AC FW CW CWr IntKind.wrap
def intC : Int -> List V
  | x => [.int .i64 x]
theorem intC_len (x : Int) : (intC x).length = 1 := rfl
def TInt (pn : Nat -> Option BI) (f1 : FuncId) (b : List Int) (en : Nat) (t : Int) (l : List Int) (n : Nat) : St := { n := 22, slots := [(0, .ptr 0 0), (2, .fn f1 [.ptr 0 0]), (7, .ref 7 0 l.length 1), (8, .int .i64 (n : Int))], mem := [(0, ⟨false, [.view b.length 1 (nums .u8 b), .int .i64 t, .int .i64 en]⟩), (7, ⟨true, l.flatMap intC⟩)], lent := [(0, pn 0)] }
theorem MRowInt.NM : type_of% @NSX /\ type_of% @St.keepS.eq_1 /\ type_of% @TY /\ type_of% @SLS /\ type_of% @nums_length /\ type_of% @TInt.eq_1 :=
  ⟨NSX, St.keepS.eq_1, @TY, @SLS, @nums_length, @TInt.eq_1⟩
open MRowInt
theorem K1RowInt.kp {P : Program} {c : Code} {Q : Exit -> St -> Prop} {st : St} (h : AW P c Q (st.keepS [0, 1, 2, 6, 7, 8])) : AW P c Q st := AW.keepS _ h
theorem K1RowInt.cl {p : Prop} (h : p := by
  first
    | refine AWL.cMP (f := 52) [(0, 0)] cb52 rfl rfl rfl rfl rfl rfl rfl (hcount) ?_ ?_
    | refine AWL.cFP [(0, 0)] rfl rfl rfl rfl hcb rfl rfl rfl rfl (hone) ?_ ?_
  all_goals (apply_rules (newGoals := .nonDependentOnly) only [dep])
  all_goals constructor) : p := h
theorem K1RowInt.rt {p : Prop} (h : p := by
  first | (refine AW.frzRet 6 rfl rfl ?_; (try (conv => arg -1; simp (disch := omega) only [NM, Nat.reduceBEq, reduceAdd, reduceMul, Int.reduceToNat, reduceSub, List.set_cons_zero, List.set_cons_succ, nx])))
  all_goals (apply_rules (newGoals := .nonDependentOnly) only [dep])
  all_goals constructor) : p := h
theorem K1RowInt.sd {p : Prop} (h : p := by first | exact sd1eb496) : p := h
open K1RowInt in
set_option maxHeartbeats 6400000 in
theorem rowInt_ok {b : List Int} {p : Int} {en : Nat} (h : okT b p en) (most : Int) (hm : most <= 100000) {f1 : FuncId} (hcb : callable Tryd.prog f1 = true) {one : Int -> Res Int}
    (hone : ∀ t, okT b t en -> AMP Tryd.prog f1 [.ptr 0 0] (tpM 0 b t en) [0] (OKR (one t) (fun x => .int .i64 x) b en) (ERR (one t) b en))
    (hmv : ∀ t a q, okT b t en -> one t = .ok (a, q) -> okT b q en) :
    AMP Tryd.prog 35 [.ptr 0 0, .int .i64 most, .fn f1 [.ptr 0 0]] (tpM 0 b p en) [0] (OKR (rowsT (b.take en) most one p) (fun l => .view l.length 1 (l.flatMap intC)) b en) (ERR (rowsT (b.take en) most one p) b en) := by
  have hcount := tcount_ok h most
  have hcm := fun n q => cntT_mv h (most := most) (n := n) (t := q)
  obtain ⟨A, hA⟩ : ∃ A, rowsT (b.take en) most one p = A := ⟨_, rfl⟩
  rw [hA]
  unfold rowsT at hA
  unfold TF OKR ERR tpM at hcount
  unfold OKR ERR tpM at hone
  unfold OKR ERR tpM
  rcases hz : cntT (b.take en) most p with ⟨e, q⟩ | ⟨n, q⟩
  all_goals
    rw [hz] at hA hcount hcm
    simp only [bnd_ok, bnd_err] at hA hcount
    refine AMP.enter Tryd.func35 rfl (Nat.le_of_ble_eq_true rfl) (fun pn => ?_)
    simp only [Tryd.f35]
  · subst hA
    have nx : True := trivial
    refine' stdbb2e8
    all_goals first | exact ⟨trivial, trivial⟩ | exact ⟨rfl, trivial⟩ | exact ⟨rfl, rfl⟩ | exact ⟨trivial, rfl⟩ | (exfalso; omega) | trace_state
  obtain ⟨h2, h3, h4⟩ := hcm _ _ rfl
  obtain ⟨n0, rfl⟩ : ∃ n0 : Nat, n = n0 := ⟨n.toNat, by omega⟩
  have hA : bnd (rowT one n0 q) (fun r t => .ok ([] ++ r, t)) = A := by rw [<- hA, Int.toNat_natCast]; exact bnd_nil _
  have hn0 : n0 <= 100000 := by omega
  clear hcm hz h4
  have nx : True := trivial
  refine' stdbb2e8
  refine AW.loop [0, 2, 7, 8] [0, 7] (fun m st => ∃ (n : Nat) (t : Int) (l : List Int), st = TInt pn f1 b en t l n /\ okT b t en /\ l.length + n = n0 /\ bnd (rowT one n t) (fun r t => .ok (l ++ r, t)) = A /\ n = m) ?_ ?_
  · exact ⟨_, n0, q, [], rfl, h2, by simp, hA, rfl⟩
  rintro m st ⟨n, t, l, rfl, ht, hln, hA, rfl⟩
  clear hcount
  rcases n with _ | n
  · rw [rowT] at hA
    simp only [bnd_ok, List.append_nil] at hA
    subst hA
    have hcut : List.take (l.length) (l.flatMap intC) = l.flatMap intC := List.take_of_length_le (by rw [flat_len intC_len]; omega)
    have nx : type_of% @hcut /\ True := ⟨@hcut, trivial⟩
    refine' stdbb2e8
    all_goals first | exact ⟨trivial, trivial⟩ | exact ⟨rfl, trivial⟩ | exact ⟨rfl, rfl⟩ | exact ⟨trivial, rfl⟩ | (exfalso; omega) | trace_state
  · have hone := hone t ht
    have hmv := hmv t
    have e1 : IntKind.i64.wrap (((n + 1 : Nat) : Int) - 1) = (n : Int) := by rw [wrap64_id _ (by omega) (by omega)]; omega
    have d1 : decide (((n + 1 : Nat) : Int) > 0) = true := decide_eq_true (by omega)
    have hcut : List.take (l.length) (l.flatMap intC) = l.flatMap intC := List.take_of_length_le (by rw [flat_len intC_len]; omega)
    rw [rowT] at hA
    rcases hz1 : one t with ⟨e, q⟩ | ⟨x, q⟩
    all_goals
      rw [hz1] at hA hone
      simp only [bnd_ok, bnd_err] at hA hone
    · subst hA
      have nx : type_of% @e1 /\ type_of% @d1 /\ type_of% @hcut /\ True := ⟨@e1, ⟨@d1, ⟨@hcut, trivial⟩⟩⟩
      refine' stdbb2e8
      all_goals first | exact ⟨trivial, trivial⟩ | exact ⟨rfl, trivial⟩ | exact ⟨rfl, rfl⟩ | exact ⟨trivial, rfl⟩ | (exfalso; omega) | trace_state
    · have ht2 := hmv _ _ ht hz1
      rw [bnd_app] at hA
      have hl2 : (l ++ [x]).length = l.length + 1 := by simp
      obtain x := x
      have hs2 : l.flatMap intC ++ [.int .i64 x] = (l ++ ([x] : List Int)).flatMap intC := (flat_snoc (f := intC) l (x : Int)).symm
      (try unfold intC at hone)
      have nx : type_of% @e1 /\ type_of% @d1 /\ type_of% @hcut /\ True := ⟨@e1, ⟨@d1, ⟨@hcut, trivial⟩⟩⟩
      refine' stdbb2e8
      all_goals first
        | exact ⟨n, by omega, n, q, l ++ [x], by rw [TInt, hl2, <- hs2]; rfl, ht2, by rw [hl2]; omega, hA, rfl⟩
        | trace_state
end Go.Proofs.YtmomeejfopfchaaDoor
namespace Go.Proofs.YtmomeejfopfchaaDoor
set_option maxRecDepth 20000
open Go Go.Abs Nat
attribute [local irreducible] AW AWL AC FW CW CWr IntKind.wrap
theorem byLim (h : 89 < Tryd.prog.types.size) : (Tryd.prog.types[89]'h).bytes = 16 := by kernel_rfl
def limC : (Int × Int) -> List V
  | ⟨xa, xb⟩ => [.int .i64 xa, .int .i64 xb]
theorem limC_len (x : (Int × Int)) : (limC x).length = 2 := rfl
def TLim (pn : Nat -> Option BI) (f1 : FuncId) (b : List Int) (en : Nat) (t : Int) (l : List (Int × Int)) (n : Nat) : St := { n := 22, slots := [(0, .ptr 0 0), (2, .fn f1 [.ptr 3 0]), (7, .ref 7 0 l.length 2), (8, .int .i64 (n : Int))], mem := [(0, ⟨false, [.view b.length 1 (nums .u8 b), .int .i64 t, .int .i64 en]⟩), (3, ⟨false, [.ptr 0 0]⟩), (7, ⟨true, l.flatMap limC⟩)], lent := [(0, pn 0), (3, pn 3)] }
theorem MRowLim.NM : type_of% @NSX /\ type_of% @St.keepS.eq_1 /\ type_of% @TY /\ type_of% @SLS /\ type_of% @nums_length /\ type_of% @TLim.eq_1 :=
  ⟨NSX, St.keepS.eq_1, @TY, @SLS, @nums_length, @TLim.eq_1⟩
open MRowLim
theorem K1RowLim.kp {P : Program} {c : Code} {Q : Exit -> St -> Prop} {st : St} (h : AW P c Q (st.keepS [0, 1, 2, 6, 7, 8])) : AW P c Q st := AW.keepS _ h
theorem K1RowLim.cl {p : Prop} (h : p := by
  first
    | refine AWL.cMP (f := 52) [(0, 0)] cb52 rfl rfl rfl rfl rfl rfl rfl (hcount) ?_ ?_
    | refine AWL.cFP [(0, 0), (3, 3)] rfl rfl rfl rfl hcb rfl rfl rfl rfl (hone) ?_ ?_
  all_goals (apply_rules (newGoals := .nonDependentOnly) only [dep])
  all_goals constructor) : p := h
theorem K1RowLim.rt {p : Prop} (h : p := by
  first | (refine AW.frzRet 6 rfl rfl ?_; (try (conv => arg -1; simp (disch := omega) only [NM, Nat.reduceBEq, reduceAdd, reduceMul, Int.reduceToNat, reduceSub, List.set_cons_zero, List.set_cons_succ, nx])))
  all_goals (apply_rules (newGoals := .nonDependentOnly) only [dep])
  all_goals constructor) : p := h
theorem K1RowLim.sd {p : Prop} (h : p := by first | exact sd517c6e) : p := h
open K1RowLim in
set_option maxHeartbeats 6400000 in
theorem rowLim_ok {b : List Int} {p : Int} {en : Nat} (h : okT b p en) (most : Int) (hm : most <= 100000) {f1 : FuncId} (hcb : callable Tryd.prog f1 = true) {one : Int -> Res (Int × Int)}
    (hone : ∀ t, okT b t en -> AMP Tryd.prog f1 [.ptr 3 0] (tpM 0 b t en ++ [(3, ⟨false, [.ptr 0 0]⟩)]) [0, 3] (OKRx (one t) (fun x => .agg (limC x)) b en) (ERRx (one t) b en))
    (hmv : ∀ t a q, okT b t en -> one t = .ok (a, q) -> okT b q en) :
    AMP Tryd.prog 36 [.ptr 0 0, .int .i64 most, .fn f1 [.ptr 3 0]] (tpM 0 b p en ++ [(3, ⟨false, [.ptr 0 0]⟩)]) [0, 3] (OKRx (rowsT (b.take en) most one p) (fun l => .view l.length 2 (l.flatMap limC)) b en) (ERRx (rowsT (b.take en) most one p) b en) := by
  have hcount := tcount_ok h most
  have hcm := fun n q => cntT_mv h (most := most) (n := n) (t := q)
  obtain ⟨A, hA⟩ : ∃ A, rowsT (b.take en) most one p = A := ⟨_, rfl⟩
  rw [hA]
  unfold rowsT at hA
  unfold TF OKR ERR tpM at hcount
  unfold OKRx ERRx tpM at hone
  unfold OKRx ERRx tpM
  rcases hz : cntT (b.take en) most p with ⟨e, q⟩ | ⟨n, q⟩
  all_goals
    rw [hz] at hA hcount hcm
    simp only [bnd_ok, bnd_err] at hA hcount
    refine AMP.enter Tryd.func36 rfl (Nat.le_of_ble_eq_true rfl) (fun pn => ?_)
    simp only [Tryd.f36]
  · subst hA
    have nx : True := trivial
    refine' sta7fcb1
    all_goals first | exact ⟨trivial, trivial⟩ | exact ⟨rfl, trivial⟩ | exact ⟨rfl, rfl⟩ | exact ⟨trivial, rfl⟩ | (exfalso; omega) | trace_state
  obtain ⟨h2, h3, h4⟩ := hcm _ _ rfl
  obtain ⟨n0, rfl⟩ : ∃ n0 : Nat, n = n0 := ⟨n.toNat, by omega⟩
  have hA : bnd (rowT one n0 q) (fun r t => .ok ([] ++ r, t)) = A := by rw [<- hA, Int.toNat_natCast]; exact bnd_nil _
  have hn0 : n0 <= 100000 := by omega
  clear hcm hz h4
  have nx : True := trivial
  refine' sta7fcb1
  refine AW.loop [0, 2, 7, 8] [0, 3, 7] (fun m st => ∃ (n : Nat) (t : Int) (l : List (Int × Int)), st = TLim pn f1 b en t l n /\ okT b t en /\ l.length + n = n0 /\ bnd (rowT one n t) (fun r t => .ok (l ++ r, t)) = A /\ n = m) ?_ ?_
  · exact ⟨_, n0, q, [], rfl, h2, by simp, hA, rfl⟩
  rintro m st ⟨n, t, l, rfl, ht, hln, hA, rfl⟩
  clear hcount
  rcases n with _ | n
  · rw [rowT] at hA
    simp only [bnd_ok, List.append_nil] at hA
    subst hA
    have hcut : List.take (l.length * 2) (l.flatMap limC) = l.flatMap limC := List.take_of_length_le (by rw [flat_len limC_len]; omega)
    have nx : type_of% @hcut /\ True := ⟨@hcut, trivial⟩
    refine' sta7fcb1
    all_goals first | exact ⟨trivial, trivial⟩ | exact ⟨rfl, trivial⟩ | exact ⟨rfl, rfl⟩ | exact ⟨trivial, rfl⟩ | (exfalso; omega) | trace_state
  · have hone := hone t ht
    have hmv := hmv t
    have e1 : IntKind.i64.wrap (((n + 1 : Nat) : Int) - 1) = (n : Int) := by rw [wrap64_id _ (by omega) (by omega)]; omega
    have d1 : decide (((n + 1 : Nat) : Int) > 0) = true := decide_eq_true (by omega)
    have hcut : List.take (l.length * 2) (l.flatMap limC) = l.flatMap limC := List.take_of_length_le (by rw [flat_len limC_len]; omega)
    rw [rowT] at hA
    rcases hz1 : one t with ⟨e, q⟩ | ⟨x, q⟩
    all_goals
      rw [hz1] at hA hone
      simp only [bnd_ok, bnd_err] at hA hone
    · subst hA
      have nx : type_of% @e1 /\ type_of% @d1 /\ type_of% @hcut /\ True := ⟨@e1, ⟨@d1, ⟨@hcut, trivial⟩⟩⟩
      refine' sta7fcb1
      all_goals first | exact ⟨trivial, trivial⟩ | exact ⟨rfl, trivial⟩ | exact ⟨rfl, rfl⟩ | exact ⟨trivial, rfl⟩ | (exfalso; omega) | trace_state
    · have ht2 := hmv _ _ ht hz1
      rw [bnd_app] at hA
      have hl2 : (l ++ [x]).length = l.length + 1 := by simp
      obtain ⟨xa, xb⟩ := x
      have hs2 : l.flatMap limC ++ [.int .i64 xa, .int .i64 xb] = (l ++ ([⟨xa, xb⟩] : List (Int × Int))).flatMap limC := (flat_snoc (f := limC) l (⟨xa, xb⟩ : (Int × Int))).symm
      (try unfold limC at hone)
      have nx : type_of% @e1 /\ type_of% @d1 /\ type_of% @hcut /\ True := ⟨@e1, ⟨@d1, ⟨@hcut, trivial⟩⟩⟩
      refine' sta7fcb1
      all_goals first
        | exact ⟨n, by omega, n, q, l ++ [⟨xa, xb⟩], by rw [TLim, hl2, <- hs2]; rfl, ht2, by rw [hl2]; omega, hA, rfl⟩
        | trace_state
end Go.Proofs.YtmomeejfopfchaaDoor
namespace Go.Proofs.YtmomeejfopfchaaDoor
set_option maxRecDepth 20000
open Go Go.Abs Nat
attribute [local irreducible] AW AWL AC FW CW CWr IntKind.wrap
theorem byGlob (h : 75 < Tryd.prog.types.size) : (Tryd.prog.types[75]'h).bytes = 40 := by kernel_rfl
def globC : MGlob -> List V
  | ⟨xt, xm, xc⟩ => [.int .i64 xt, .bool xm, .view xc.length 6 (codeC xc)]
theorem globC_len (x : MGlob) : (globC x).length = 3 := rfl
def TGlob (pn : Nat -> Option BI) (f1 : FuncId) (b : List Int) (en : Nat) (t : Int) (l : List MGlob) (n : Nat) : St := { n := 22, slots := [(0, .ptr 0 0), (2, .fn f1 [.ptr 0 0]), (7, .ref 7 0 l.length 3), (8, .int .i64 (n : Int))], mem := [(0, ⟨false, [.view b.length 1 (nums .u8 b), .int .i64 t, .int .i64 en]⟩), (7, ⟨true, l.flatMap globC⟩)], lent := [(0, pn 0)] }
theorem MRowGlob.NM : type_of% @NSX /\ type_of% @St.keepS.eq_1 /\ type_of% @TY /\ type_of% @SLS /\ type_of% @nums_length /\ type_of% @TGlob.eq_1 :=
  ⟨NSX, St.keepS.eq_1, @TY, @SLS, @nums_length, @TGlob.eq_1⟩
open MRowGlob
theorem K1RowGlob.kp {P : Program} {c : Code} {Q : Exit -> St -> Prop} {st : St} (h : AW P c Q (st.keepS [0, 1, 2, 6, 7, 8])) : AW P c Q st := AW.keepS _ h
theorem K1RowGlob.cl {p : Prop} (h : p := by
  first
    | refine AWL.cMP (f := 52) [(0, 0)] cb52 rfl rfl rfl rfl rfl rfl rfl (hcount) ?_ ?_
    | refine AWL.cFP [(0, 0)] rfl rfl rfl rfl hcb rfl rfl rfl rfl (hone) ?_ ?_
  all_goals (apply_rules (newGoals := .nonDependentOnly) only [dep])
  all_goals constructor) : p := h
theorem K1RowGlob.rt {p : Prop} (h : p := by
  first | (refine AW.frzRet 6 rfl rfl ?_; (try (conv => arg -1; simp (disch := omega) only [NM, Nat.reduceBEq, reduceAdd, reduceMul, Int.reduceToNat, reduceSub, List.set_cons_zero, List.set_cons_succ, nx])))
  all_goals (apply_rules (newGoals := .nonDependentOnly) only [dep])
  all_goals constructor) : p := h
theorem K1RowGlob.sd {p : Prop} (h : p := by first | exact sd1ef627) : p := h
open K1RowGlob in
set_option maxHeartbeats 6400000 in
theorem rowGlob_ok {b : List Int} {p : Int} {en : Nat} (h : okT b p en) (most : Int) (hm : most <= 100000) {f1 : FuncId} (hcb : callable Tryd.prog f1 = true) {one : Int -> Res MGlob}
    (hone : ∀ t, okT b t en -> AMP Tryd.prog f1 [.ptr 0 0] (tpM 0 b t en) [0] (OKR (one t) (fun x => .agg (globC x)) b en) (ERR (one t) b en))
    (hmv : ∀ t a q, okT b t en -> one t = .ok (a, q) -> okT b q en) :
    AMP Tryd.prog 40 [.ptr 0 0, .int .i64 most, .fn f1 [.ptr 0 0]] (tpM 0 b p en) [0] (OKR (rowsT (b.take en) most one p) (fun l => .view l.length 3 (l.flatMap globC)) b en) (ERR (rowsT (b.take en) most one p) b en) := by
  have hcount := tcount_ok h most
  have hcm := fun n q => cntT_mv h (most := most) (n := n) (t := q)
  obtain ⟨A, hA⟩ : ∃ A, rowsT (b.take en) most one p = A := ⟨_, rfl⟩
  rw [hA]
  unfold rowsT at hA
  unfold TF OKR ERR tpM at hcount
  unfold OKR ERR tpM at hone
  unfold OKR ERR tpM
  rcases hz : cntT (b.take en) most p with ⟨e, q⟩ | ⟨n, q⟩
  all_goals
    rw [hz] at hA hcount hcm
    simp only [bnd_ok, bnd_err] at hA hcount
    refine AMP.enter Tryd.func40 rfl (Nat.le_of_ble_eq_true rfl) (fun pn => ?_)
    simp only [Tryd.f40]
  · subst hA
    have nx : True := trivial
    refine' stdbb2e8
    all_goals first | exact ⟨trivial, trivial⟩ | exact ⟨rfl, trivial⟩ | exact ⟨rfl, rfl⟩ | exact ⟨trivial, rfl⟩ | (exfalso; omega) | trace_state
  obtain ⟨h2, h3, h4⟩ := hcm _ _ rfl
  obtain ⟨n0, rfl⟩ : ∃ n0 : Nat, n = n0 := ⟨n.toNat, by omega⟩
  have hA : bnd (rowT one n0 q) (fun r t => .ok ([] ++ r, t)) = A := by rw [<- hA, Int.toNat_natCast]; exact bnd_nil _
  have hn0 : n0 <= 100000 := by omega
  clear hcm hz h4
  have nx : True := trivial
  refine' stdbb2e8
  refine AW.loop [0, 2, 7, 8] [0, 7] (fun m st => ∃ (n : Nat) (t : Int) (l : List MGlob), st = TGlob pn f1 b en t l n /\ okT b t en /\ l.length + n = n0 /\ bnd (rowT one n t) (fun r t => .ok (l ++ r, t)) = A /\ n = m) ?_ ?_
  · exact ⟨_, n0, q, [], rfl, h2, by simp, hA, rfl⟩
  rintro m st ⟨n, t, l, rfl, ht, hln, hA, rfl⟩
  clear hcount
  rcases n with _ | n
  · rw [rowT] at hA
    simp only [bnd_ok, List.append_nil] at hA
    subst hA
    have hcut : List.take (l.length * 3) (l.flatMap globC) = l.flatMap globC := List.take_of_length_le (by rw [flat_len globC_len]; omega)
    have nx : type_of% @hcut /\ True := ⟨@hcut, trivial⟩
    refine' stdbb2e8
    all_goals first | exact ⟨trivial, trivial⟩ | exact ⟨rfl, trivial⟩ | exact ⟨rfl, rfl⟩ | exact ⟨trivial, rfl⟩ | (exfalso; omega) | trace_state
  · have hone := hone t ht
    have hmv := hmv t
    have e1 : IntKind.i64.wrap (((n + 1 : Nat) : Int) - 1) = (n : Int) := by rw [wrap64_id _ (by omega) (by omega)]; omega
    have d1 : decide (((n + 1 : Nat) : Int) > 0) = true := decide_eq_true (by omega)
    have hcut : List.take (l.length * 3) (l.flatMap globC) = l.flatMap globC := List.take_of_length_le (by rw [flat_len globC_len]; omega)
    rw [rowT] at hA
    rcases hz1 : one t with ⟨e, q⟩ | ⟨x, q⟩
    all_goals
      rw [hz1] at hA hone
      simp only [bnd_ok, bnd_err] at hA hone
    · subst hA
      have nx : type_of% @e1 /\ type_of% @d1 /\ type_of% @hcut /\ True := ⟨@e1, ⟨@d1, ⟨@hcut, trivial⟩⟩⟩
      refine' stdbb2e8
      all_goals first | exact ⟨trivial, trivial⟩ | exact ⟨rfl, trivial⟩ | exact ⟨rfl, rfl⟩ | exact ⟨trivial, rfl⟩ | (exfalso; omega) | trace_state
    · have ht2 := hmv _ _ ht hz1
      rw [bnd_app] at hA
      have hl2 : (l ++ [x]).length = l.length + 1 := by simp
      obtain ⟨xt, xm, xc⟩ := x
      have hs2 : l.flatMap globC ++ [.int .i64 xt, .bool xm, .view xc.length 6 (codeC xc)] = (l ++ ([⟨xt, xm, xc⟩] : List MGlob)).flatMap globC := (flat_snoc (f := globC) l (⟨xt, xm, xc⟩ : MGlob)).symm
      (try unfold globC at hone)
      have nx : type_of% @e1 /\ type_of% @d1 /\ type_of% @hcut /\ True := ⟨@e1, ⟨@d1, ⟨@hcut, trivial⟩⟩⟩
      refine' stdbb2e8
      all_goals first
        | exact ⟨n, by omega, n, q, l ++ [⟨xt, xm, xc⟩], by rw [TGlob, hl2, <- hs2]; rfl, ht2, by rw [hl2]; omega, hA, rfl⟩
        | trace_state
end Go.Proofs.YtmomeejfopfchaaDoor
namespace Go.Proofs.YtmomeejfopfchaaDoor
set_option maxRecDepth 20000
open Go Go.Abs Nat
attribute [local irreducible] AW AWL AC FW CW CWr IntKind.wrap
theorem byExp (h : 78 < Tryd.prog.types.size) : (Tryd.prog.types[78]'h).bytes = 32 := by kernel_rfl
def expC : MExp -> List V
  | ⟨xn, xk, xi⟩ => [.str xn, .int .i64 xk, .int .i64 xi]
theorem expC_len (x : MExp) : (expC x).length = 3 := rfl
def TExp (pn : Nat -> Option BI) (f1 : FuncId) (b : List Int) (en : Nat) (t : Int) (l : List MExp) (n : Nat) : St := { n := 22, slots := [(0, .ptr 0 0), (2, .fn f1 [.ptr 0 0]), (7, .ref 7 0 l.length 3), (8, .int .i64 (n : Int))], mem := [(0, ⟨false, [.view b.length 1 (nums .u8 b), .int .i64 t, .int .i64 en]⟩), (7, ⟨true, l.flatMap expC⟩)], lent := [(0, pn 0)] }
theorem MRowExp.NM : type_of% @NSX /\ type_of% @St.keepS.eq_1 /\ type_of% @TY /\ type_of% @SLS /\ type_of% @nums_length /\ type_of% @TExp.eq_1 :=
  ⟨NSX, St.keepS.eq_1, @TY, @SLS, @nums_length, @TExp.eq_1⟩
open MRowExp
theorem K1RowExp.kp {P : Program} {c : Code} {Q : Exit -> St -> Prop} {st : St} (h : AW P c Q (st.keepS [0, 1, 2, 6, 7, 8])) : AW P c Q st := AW.keepS _ h
theorem K1RowExp.cl {p : Prop} (h : p := by
  first
    | refine AWL.cMP (f := 52) [(0, 0)] cb52 rfl rfl rfl rfl rfl rfl rfl (hcount) ?_ ?_
    | refine AWL.cFP [(0, 0)] rfl rfl rfl rfl hcb rfl rfl rfl rfl (hone) ?_ ?_
  all_goals (apply_rules (newGoals := .nonDependentOnly) only [dep])
  all_goals constructor) : p := h
theorem K1RowExp.rt {p : Prop} (h : p := by
  first | (refine AW.frzRet 6 rfl rfl ?_; (try (conv => arg -1; simp (disch := omega) only [NM, Nat.reduceBEq, reduceAdd, reduceMul, Int.reduceToNat, reduceSub, List.set_cons_zero, List.set_cons_succ, nx])))
  all_goals (apply_rules (newGoals := .nonDependentOnly) only [dep])
  all_goals constructor) : p := h
theorem K1RowExp.sd {p : Prop} (h : p := by first | exact sd573b37) : p := h
open K1RowExp in
set_option maxHeartbeats 6400000 in
theorem rowExp_ok {b : List Int} {p : Int} {en : Nat} (h : okT b p en) (most : Int) (hm : most <= 100000) {f1 : FuncId} (hcb : callable Tryd.prog f1 = true) {one : Int -> Res MExp}
    (hone : ∀ t, okT b t en -> AMP Tryd.prog f1 [.ptr 0 0] (tpM 0 b t en) [0] (OKR (one t) (fun x => .agg (expC x)) b en) (ERR (one t) b en))
    (hmv : ∀ t a q, okT b t en -> one t = .ok (a, q) -> okT b q en) :
    AMP Tryd.prog 42 [.ptr 0 0, .int .i64 most, .fn f1 [.ptr 0 0]] (tpM 0 b p en) [0] (OKR (rowsT (b.take en) most one p) (fun l => .view l.length 3 (l.flatMap expC)) b en) (ERR (rowsT (b.take en) most one p) b en) := by
  have hcount := tcount_ok h most
  have hcm := fun n q => cntT_mv h (most := most) (n := n) (t := q)
  obtain ⟨A, hA⟩ : ∃ A, rowsT (b.take en) most one p = A := ⟨_, rfl⟩
  rw [hA]
  unfold rowsT at hA
  unfold TF OKR ERR tpM at hcount
  unfold OKR ERR tpM at hone
  unfold OKR ERR tpM
  rcases hz : cntT (b.take en) most p with ⟨e, q⟩ | ⟨n, q⟩
  all_goals
    rw [hz] at hA hcount hcm
    simp only [bnd_ok, bnd_err] at hA hcount
    refine AMP.enter Tryd.func42 rfl (Nat.le_of_ble_eq_true rfl) (fun pn => ?_)
    simp only [Tryd.f42]
  · subst hA
    have nx : True := trivial
    refine' stdbb2e8
    all_goals first | exact ⟨trivial, trivial⟩ | exact ⟨rfl, trivial⟩ | exact ⟨rfl, rfl⟩ | exact ⟨trivial, rfl⟩ | (exfalso; omega) | trace_state
  obtain ⟨h2, h3, h4⟩ := hcm _ _ rfl
  obtain ⟨n0, rfl⟩ : ∃ n0 : Nat, n = n0 := ⟨n.toNat, by omega⟩
  have hA : bnd (rowT one n0 q) (fun r t => .ok ([] ++ r, t)) = A := by rw [<- hA, Int.toNat_natCast]; exact bnd_nil _
  have hn0 : n0 <= 100000 := by omega
  clear hcm hz h4
  have nx : True := trivial
  refine' stdbb2e8
  refine AW.loop [0, 2, 7, 8] [0, 7] (fun m st => ∃ (n : Nat) (t : Int) (l : List MExp), st = TExp pn f1 b en t l n /\ okT b t en /\ l.length + n = n0 /\ bnd (rowT one n t) (fun r t => .ok (l ++ r, t)) = A /\ n = m) ?_ ?_
  · exact ⟨_, n0, q, [], rfl, h2, by simp, hA, rfl⟩
  rintro m st ⟨n, t, l, rfl, ht, hln, hA, rfl⟩
  clear hcount
  rcases n with _ | n
  · rw [rowT] at hA
    simp only [bnd_ok, List.append_nil] at hA
    subst hA
    have hcut : List.take (l.length * 3) (l.flatMap expC) = l.flatMap expC := List.take_of_length_le (by rw [flat_len expC_len]; omega)
    have nx : type_of% @hcut /\ True := ⟨@hcut, trivial⟩
    refine' stdbb2e8
    all_goals first | exact ⟨trivial, trivial⟩ | exact ⟨rfl, trivial⟩ | exact ⟨rfl, rfl⟩ | exact ⟨trivial, rfl⟩ | (exfalso; omega) | trace_state
  · have hone := hone t ht
    have hmv := hmv t
    have e1 : IntKind.i64.wrap (((n + 1 : Nat) : Int) - 1) = (n : Int) := by rw [wrap64_id _ (by omega) (by omega)]; omega
    have d1 : decide (((n + 1 : Nat) : Int) > 0) = true := decide_eq_true (by omega)
    have hcut : List.take (l.length * 3) (l.flatMap expC) = l.flatMap expC := List.take_of_length_le (by rw [flat_len expC_len]; omega)
    rw [rowT] at hA
    rcases hz1 : one t with ⟨e, q⟩ | ⟨x, q⟩
    all_goals
      rw [hz1] at hA hone
      simp only [bnd_ok, bnd_err] at hA hone
    · subst hA
      have nx : type_of% @e1 /\ type_of% @d1 /\ type_of% @hcut /\ True := ⟨@e1, ⟨@d1, ⟨@hcut, trivial⟩⟩⟩
      refine' stdbb2e8
      all_goals first | exact ⟨trivial, trivial⟩ | exact ⟨rfl, trivial⟩ | exact ⟨rfl, rfl⟩ | exact ⟨trivial, rfl⟩ | (exfalso; omega) | trace_state
    · have ht2 := hmv _ _ ht hz1
      rw [bnd_app] at hA
      have hl2 : (l ++ [x]).length = l.length + 1 := by simp
      obtain ⟨xn, xk, xi⟩ := x
      have hs2 : l.flatMap expC ++ [.str xn, .int .i64 xk, .int .i64 xi] = (l ++ ([⟨xn, xk, xi⟩] : List MExp)).flatMap expC := (flat_snoc (f := expC) l (⟨xn, xk, xi⟩ : MExp)).symm
      (try unfold expC at hone)
      have nx : type_of% @e1 /\ type_of% @d1 /\ type_of% @hcut /\ True := ⟨@e1, ⟨@d1, ⟨@hcut, trivial⟩⟩⟩
      refine' stdbb2e8
      all_goals first
        | exact ⟨n, by omega, n, q, l ++ [⟨xn, xk, xi⟩], by rw [TExp, hl2, <- hs2]; rfl, ht2, by rw [hl2]; omega, hA, rfl⟩
        | trace_state
end Go.Proofs.YtmomeejfopfchaaDoor
namespace Go.Proofs.YtmomeejfopfchaaDoor
set_option maxRecDepth 20000
open Go Go.Abs Nat
attribute [local irreducible] AW AWL AC FW CW CWr IntKind.wrap
def elemC : MElem -> List V
  | ⟨xc, xf⟩ => [.view xc.length 6 (codeC xc), .view xf.length 1 (nums .i64 xf)]
theorem elemC_len (x : MElem) : (elemC x).length = 2 := rfl
def TElem (pn : Nat -> Option BI) (f1 : FuncId) (b : List Int) (en : Nat) (t : Int) (l : List MElem) (n : Nat) : St := { n := 22, slots := [(0, .ptr 0 0), (2, .fn f1 [.ptr 0 0]), (7, .ref 7 0 l.length 2), (8, .int .i64 (n : Int))], mem := [(0, ⟨false, [.view b.length 1 (nums .u8 b), .int .i64 t, .int .i64 en]⟩), (7, ⟨true, l.flatMap elemC⟩)], lent := [(0, pn 0)] }
theorem MRowElem.NM : type_of% @NSX /\ type_of% @St.keepS.eq_1 /\ type_of% @TY /\ type_of% @SLS /\ type_of% @nums_length /\ type_of% @TElem.eq_1 :=
  ⟨NSX, St.keepS.eq_1, @TY, @SLS, @nums_length, @TElem.eq_1⟩
open MRowElem
theorem K1RowElem.kp {P : Program} {c : Code} {Q : Exit -> St -> Prop} {st : St} (h : AW P c Q (st.keepS [0, 1, 2, 6, 7, 8])) : AW P c Q st := AW.keepS _ h
theorem K1RowElem.cl {p : Prop} (h : p := by
  first
    | refine AWL.cMP (f := 52) [(0, 0)] cb52 rfl rfl rfl rfl rfl rfl rfl (hcount) ?_ ?_
    | refine AWL.cFP [(0, 0)] rfl rfl rfl rfl hcb rfl rfl rfl rfl (hone) ?_ ?_
  all_goals (apply_rules (newGoals := .nonDependentOnly) only [dep])
  all_goals constructor) : p := h
theorem K1RowElem.rt {p : Prop} (h : p := by
  first | (refine AW.frzRet 6 rfl rfl ?_; (try (conv => arg -1; simp (disch := omega) only [NM, Nat.reduceBEq, reduceAdd, reduceMul, Int.reduceToNat, reduceSub, List.set_cons_zero, List.set_cons_succ, nx])))
  all_goals (apply_rules (newGoals := .nonDependentOnly) only [dep])
  all_goals constructor) : p := h
theorem K1RowElem.sd {p : Prop} (h : p := by first | exact sd1eb496) : p := h
open K1RowElem in
set_option maxHeartbeats 6400000 in
theorem rowElem_ok {b : List Int} {p : Int} {en : Nat} (h : okT b p en) (most : Int) (hm : most <= 100000) {f1 : FuncId} (hcb : callable Tryd.prog f1 = true) {one : Int -> Res MElem}
    (hone : ∀ t, okT b t en -> AMP Tryd.prog f1 [.ptr 0 0] (tpM 0 b t en) [0] (OKR (one t) (fun x => .agg (elemC x)) b en) (ERR (one t) b en))
    (hmv : ∀ t a q, okT b t en -> one t = .ok (a, q) -> okT b q en) :
    AMP Tryd.prog 44 [.ptr 0 0, .int .i64 most, .fn f1 [.ptr 0 0]] (tpM 0 b p en) [0] (OKR (rowsT (b.take en) most one p) (fun l => .view l.length 2 (l.flatMap elemC)) b en) (ERR (rowsT (b.take en) most one p) b en) := by
  have hcount := tcount_ok h most
  have hcm := fun n q => cntT_mv h (most := most) (n := n) (t := q)
  obtain ⟨A, hA⟩ : ∃ A, rowsT (b.take en) most one p = A := ⟨_, rfl⟩
  rw [hA]
  unfold rowsT at hA
  unfold TF OKR ERR tpM at hcount
  unfold OKR ERR tpM at hone
  unfold OKR ERR tpM
  rcases hz : cntT (b.take en) most p with ⟨e, q⟩ | ⟨n, q⟩
  all_goals
    rw [hz] at hA hcount hcm
    simp only [bnd_ok, bnd_err] at hA hcount
    refine AMP.enter Tryd.func44 rfl (Nat.le_of_ble_eq_true rfl) (fun pn => ?_)
    simp only [Tryd.f44]
  · subst hA
    have nx : True := trivial
    refine' stdbb2e8
    all_goals first | exact ⟨trivial, trivial⟩ | exact ⟨rfl, trivial⟩ | exact ⟨rfl, rfl⟩ | exact ⟨trivial, rfl⟩ | (exfalso; omega) | trace_state
  obtain ⟨h2, h3, h4⟩ := hcm _ _ rfl
  obtain ⟨n0, rfl⟩ : ∃ n0 : Nat, n = n0 := ⟨n.toNat, by omega⟩
  have hA : bnd (rowT one n0 q) (fun r t => .ok ([] ++ r, t)) = A := by rw [<- hA, Int.toNat_natCast]; exact bnd_nil _
  have hn0 : n0 <= 100000 := by omega
  clear hcm hz h4
  have nx : True := trivial
  refine' stdbb2e8
  refine AW.loop [0, 2, 7, 8] [0, 7] (fun m st => ∃ (n : Nat) (t : Int) (l : List MElem), st = TElem pn f1 b en t l n /\ okT b t en /\ l.length + n = n0 /\ bnd (rowT one n t) (fun r t => .ok (l ++ r, t)) = A /\ n = m) ?_ ?_
  · exact ⟨_, n0, q, [], rfl, h2, by simp, hA, rfl⟩
  rintro m st ⟨n, t, l, rfl, ht, hln, hA, rfl⟩
  clear hcount
  rcases n with _ | n
  · rw [rowT] at hA
    simp only [bnd_ok, List.append_nil] at hA
    subst hA
    have hcut : List.take (l.length * 2) (l.flatMap elemC) = l.flatMap elemC := List.take_of_length_le (by rw [flat_len elemC_len]; omega)
    have nx : type_of% @hcut /\ True := ⟨@hcut, trivial⟩
    refine' stdbb2e8
    all_goals first | exact ⟨trivial, trivial⟩ | exact ⟨rfl, trivial⟩ | exact ⟨rfl, rfl⟩ | exact ⟨trivial, rfl⟩ | (exfalso; omega) | trace_state
  · have hone := hone t ht
    have hmv := hmv t
    have e1 : IntKind.i64.wrap (((n + 1 : Nat) : Int) - 1) = (n : Int) := by rw [wrap64_id _ (by omega) (by omega)]; omega
    have d1 : decide (((n + 1 : Nat) : Int) > 0) = true := decide_eq_true (by omega)
    have hcut : List.take (l.length * 2) (l.flatMap elemC) = l.flatMap elemC := List.take_of_length_le (by rw [flat_len elemC_len]; omega)
    rw [rowT] at hA
    rcases hz1 : one t with ⟨e, q⟩ | ⟨x, q⟩
    all_goals
      rw [hz1] at hA hone
      simp only [bnd_ok, bnd_err] at hA hone
    · subst hA
      have nx : type_of% @e1 /\ type_of% @d1 /\ type_of% @hcut /\ True := ⟨@e1, ⟨@d1, ⟨@hcut, trivial⟩⟩⟩
      refine' stdbb2e8
      all_goals first | exact ⟨trivial, trivial⟩ | exact ⟨rfl, trivial⟩ | exact ⟨rfl, rfl⟩ | exact ⟨trivial, rfl⟩ | (exfalso; omega) | trace_state
    · have ht2 := hmv _ _ ht hz1
      rw [bnd_app] at hA
      have hl2 : (l ++ [x]).length = l.length + 1 := by simp
      obtain ⟨xc, xf⟩ := x
      have hs2 : l.flatMap elemC ++ [.view xc.length 6 (codeC xc), .view xf.length 1 (nums .i64 xf)] = (l ++ ([⟨xc, xf⟩] : List MElem)).flatMap elemC := (flat_snoc (f := elemC) l (⟨xc, xf⟩ : MElem)).symm
      (try unfold elemC at hone)
      have nx : type_of% @e1 /\ type_of% @d1 /\ type_of% @hcut /\ True := ⟨@e1, ⟨@d1, ⟨@hcut, trivial⟩⟩⟩
      refine' stdbb2e8
      all_goals first
        | exact ⟨n, by omega, n, q, l ++ [⟨xc, xf⟩], by rw [TElem, hl2, <- hs2]; rfl, ht2, by rw [hl2]; omega, hA, rfl⟩
        | trace_state
end Go.Proofs.YtmomeejfopfchaaDoor
namespace Go.Proofs.YtmomeejfopfchaaDoor
set_option maxRecDepth 20000
open Go Go.Abs Nat
attribute [local irreducible] AW AWL AC FW CW CWr IntKind.wrap
def codC : MCode -> List V
  | ⟨xl, xc⟩ => [.view xl.length 1 (nums .i64 xl), .view xc.length 6 (codeC xc)]
theorem codC_len (x : MCode) : (codC x).length = 2 := rfl
def TCod (pn : Nat -> Option BI) (f1 : FuncId) (b : List Int) (en : Nat) (t : Int) (l : List MCode) (n : Nat) : St := { n := 22, slots := [(0, .ptr 0 0), (2, .fn f1 [.ptr 0 0]), (7, .ref 7 0 l.length 2), (8, .int .i64 (n : Int))], mem := [(0, ⟨false, [.view b.length 1 (nums .u8 b), .int .i64 t, .int .i64 en]⟩), (7, ⟨true, l.flatMap codC⟩)], lent := [(0, pn 0)] }
theorem MRowCod.NM : type_of% @NSX /\ type_of% @St.keepS.eq_1 /\ type_of% @TY /\ type_of% @SLS /\ type_of% @nums_length /\ type_of% @TCod.eq_1 :=
  ⟨NSX, St.keepS.eq_1, @TY, @SLS, @nums_length, @TCod.eq_1⟩
open MRowCod
theorem K1RowCod.kp {P : Program} {c : Code} {Q : Exit -> St -> Prop} {st : St} (h : AW P c Q (st.keepS [0, 1, 2, 6, 7, 8])) : AW P c Q st := AW.keepS _ h
theorem K1RowCod.cl {p : Prop} (h : p := by
  first
    | refine AWL.cMP (f := 52) [(0, 0)] cb52 rfl rfl rfl rfl rfl rfl rfl (hcount) ?_ ?_
    | refine AWL.cFP [(0, 0)] rfl rfl rfl rfl hcb rfl rfl rfl rfl (hone) ?_ ?_
  all_goals (apply_rules (newGoals := .nonDependentOnly) only [dep])
  all_goals constructor) : p := h
theorem K1RowCod.rt {p : Prop} (h : p := by
  first | (refine AW.frzRet 6 rfl rfl ?_; (try (conv => arg -1; simp (disch := omega) only [NM, Nat.reduceBEq, reduceAdd, reduceMul, Int.reduceToNat, reduceSub, List.set_cons_zero, List.set_cons_succ, nx])))
  all_goals (apply_rules (newGoals := .nonDependentOnly) only [dep])
  all_goals constructor) : p := h
theorem K1RowCod.sd {p : Prop} (h : p := by first | exact sd1eb496) : p := h
open K1RowCod in
set_option maxHeartbeats 6400000 in
theorem rowCod_ok {b : List Int} {p : Int} {en : Nat} (h : okT b p en) (most : Int) (hm : most <= 100000) {f1 : FuncId} (hcb : callable Tryd.prog f1 = true) {one : Int -> Res MCode}
    (hone : ∀ t, okT b t en -> AMP Tryd.prog f1 [.ptr 0 0] (tpM 0 b t en) [0] (OKR (one t) (fun x => .agg (codC x)) b en) (ERR (one t) b en))
    (hmv : ∀ t a q, okT b t en -> one t = .ok (a, q) -> okT b q en) :
    AMP Tryd.prog 46 [.ptr 0 0, .int .i64 most, .fn f1 [.ptr 0 0]] (tpM 0 b p en) [0] (OKR (rowsT (b.take en) most one p) (fun l => .view l.length 2 (l.flatMap codC)) b en) (ERR (rowsT (b.take en) most one p) b en) := by
  have hcount := tcount_ok h most
  have hcm := fun n q => cntT_mv h (most := most) (n := n) (t := q)
  obtain ⟨A, hA⟩ : ∃ A, rowsT (b.take en) most one p = A := ⟨_, rfl⟩
  rw [hA]
  unfold rowsT at hA
  unfold TF OKR ERR tpM at hcount
  unfold OKR ERR tpM at hone
  unfold OKR ERR tpM
  rcases hz : cntT (b.take en) most p with ⟨e, q⟩ | ⟨n, q⟩
  all_goals
    rw [hz] at hA hcount hcm
    simp only [bnd_ok, bnd_err] at hA hcount
    refine AMP.enter Tryd.func46 rfl (Nat.le_of_ble_eq_true rfl) (fun pn => ?_)
    simp only [Tryd.f46]
  · subst hA
    have nx : True := trivial
    refine' stdbb2e8
    all_goals first | exact ⟨trivial, trivial⟩ | exact ⟨rfl, trivial⟩ | exact ⟨rfl, rfl⟩ | exact ⟨trivial, rfl⟩ | (exfalso; omega) | trace_state
  obtain ⟨h2, h3, h4⟩ := hcm _ _ rfl
  obtain ⟨n0, rfl⟩ : ∃ n0 : Nat, n = n0 := ⟨n.toNat, by omega⟩
  have hA : bnd (rowT one n0 q) (fun r t => .ok ([] ++ r, t)) = A := by rw [<- hA, Int.toNat_natCast]; exact bnd_nil _
  have hn0 : n0 <= 100000 := by omega
  clear hcm hz h4
  have nx : True := trivial
  refine' stdbb2e8
  refine AW.loop [0, 2, 7, 8] [0, 7] (fun m st => ∃ (n : Nat) (t : Int) (l : List MCode), st = TCod pn f1 b en t l n /\ okT b t en /\ l.length + n = n0 /\ bnd (rowT one n t) (fun r t => .ok (l ++ r, t)) = A /\ n = m) ?_ ?_
  · exact ⟨_, n0, q, [], rfl, h2, by simp, hA, rfl⟩
  rintro m st ⟨n, t, l, rfl, ht, hln, hA, rfl⟩
  clear hcount
  rcases n with _ | n
  · rw [rowT] at hA
    simp only [bnd_ok, List.append_nil] at hA
    subst hA
    have hcut : List.take (l.length * 2) (l.flatMap codC) = l.flatMap codC := List.take_of_length_le (by rw [flat_len codC_len]; omega)
    have nx : type_of% @hcut /\ True := ⟨@hcut, trivial⟩
    refine' stdbb2e8
    all_goals first | exact ⟨trivial, trivial⟩ | exact ⟨rfl, trivial⟩ | exact ⟨rfl, rfl⟩ | exact ⟨trivial, rfl⟩ | (exfalso; omega) | trace_state
  · have hone := hone t ht
    have hmv := hmv t
    have e1 : IntKind.i64.wrap (((n + 1 : Nat) : Int) - 1) = (n : Int) := by rw [wrap64_id _ (by omega) (by omega)]; omega
    have d1 : decide (((n + 1 : Nat) : Int) > 0) = true := decide_eq_true (by omega)
    have hcut : List.take (l.length * 2) (l.flatMap codC) = l.flatMap codC := List.take_of_length_le (by rw [flat_len codC_len]; omega)
    rw [rowT] at hA
    rcases hz1 : one t with ⟨e, q⟩ | ⟨x, q⟩
    all_goals
      rw [hz1] at hA hone
      simp only [bnd_ok, bnd_err] at hA hone
    · subst hA
      have nx : type_of% @e1 /\ type_of% @d1 /\ type_of% @hcut /\ True := ⟨@e1, ⟨@d1, ⟨@hcut, trivial⟩⟩⟩
      refine' stdbb2e8
      all_goals first | exact ⟨trivial, trivial⟩ | exact ⟨rfl, trivial⟩ | exact ⟨rfl, rfl⟩ | exact ⟨trivial, rfl⟩ | (exfalso; omega) | trace_state
    · have ht2 := hmv _ _ ht hz1
      rw [bnd_app] at hA
      have hl2 : (l ++ [x]).length = l.length + 1 := by simp
      obtain ⟨xl, xc⟩ := x
      have hs2 : l.flatMap codC ++ [.view xl.length 1 (nums .i64 xl), .view xc.length 6 (codeC xc)] = (l ++ ([⟨xl, xc⟩] : List MCode)).flatMap codC := (flat_snoc (f := codC) l (⟨xl, xc⟩ : MCode)).symm
      (try unfold codC at hone)
      have nx : type_of% @e1 /\ type_of% @d1 /\ type_of% @hcut /\ True := ⟨@e1, ⟨@d1, ⟨@hcut, trivial⟩⟩⟩
      refine' stdbb2e8
      all_goals first
        | exact ⟨n, by omega, n, q, l ++ [⟨xl, xc⟩], by rw [TCod, hl2, <- hs2]; rfl, ht2, by rw [hl2]; omega, hA, rfl⟩
        | trace_state
end Go.Proofs.YtmomeejfopfchaaDoor
namespace Go.Proofs.YtmomeejfopfchaaDoor
set_option maxRecDepth 20000
open Go Go.Abs Nat
attribute [local irreducible] AW AWL AC FW CW CWr IntKind.wrap
def dataC : MData -> List V
  | ⟨xc, xb⟩ => [.view xc.length 6 (codeC xc), .view xb.length 1 (nums .u8 xb)]
theorem dataC_len (x : MData) : (dataC x).length = 2 := rfl
def TData (pn : Nat -> Option BI) (f1 : FuncId) (b : List Int) (en : Nat) (t : Int) (l : List MData) (n : Nat) : St := { n := 22, slots := [(0, .ptr 0 0), (2, .fn f1 [.ptr 0 0]), (7, .ref 7 0 l.length 2), (8, .int .i64 (n : Int))], mem := [(0, ⟨false, [.view b.length 1 (nums .u8 b), .int .i64 t, .int .i64 en]⟩), (7, ⟨true, l.flatMap dataC⟩)], lent := [(0, pn 0)] }
theorem MRowData.NM : type_of% @NSX /\ type_of% @St.keepS.eq_1 /\ type_of% @TY /\ type_of% @SLS /\ type_of% @nums_length /\ type_of% @TData.eq_1 :=
  ⟨NSX, St.keepS.eq_1, @TY, @SLS, @nums_length, @TData.eq_1⟩
open MRowData
theorem K1RowData.kp {P : Program} {c : Code} {Q : Exit -> St -> Prop} {st : St} (h : AW P c Q (st.keepS [0, 1, 2, 6, 7, 8])) : AW P c Q st := AW.keepS _ h
theorem K1RowData.cl {p : Prop} (h : p := by
  first
    | refine AWL.cMP (f := 52) [(0, 0)] cb52 rfl rfl rfl rfl rfl rfl rfl (hcount) ?_ ?_
    | refine AWL.cFP [(0, 0)] rfl rfl rfl rfl hcb rfl rfl rfl rfl (hone) ?_ ?_
  all_goals (apply_rules (newGoals := .nonDependentOnly) only [dep])
  all_goals constructor) : p := h
theorem K1RowData.rt {p : Prop} (h : p := by
  first | (refine AW.frzRet 6 rfl rfl ?_; (try (conv => arg -1; simp (disch := omega) only [NM, Nat.reduceBEq, reduceAdd, reduceMul, Int.reduceToNat, reduceSub, List.set_cons_zero, List.set_cons_succ, nx])))
  all_goals (apply_rules (newGoals := .nonDependentOnly) only [dep])
  all_goals constructor) : p := h
theorem K1RowData.sd {p : Prop} (h : p := by first | exact sd1eb496) : p := h
open K1RowData in
set_option maxHeartbeats 6400000 in
theorem rowData_ok {b : List Int} {p : Int} {en : Nat} (h : okT b p en) (most : Int) (hm : most <= 100000) {f1 : FuncId} (hcb : callable Tryd.prog f1 = true) {one : Int -> Res MData}
    (hone : ∀ t, okT b t en -> AMP Tryd.prog f1 [.ptr 0 0] (tpM 0 b t en) [0] (OKR (one t) (fun x => .agg (dataC x)) b en) (ERR (one t) b en))
    (hmv : ∀ t a q, okT b t en -> one t = .ok (a, q) -> okT b q en) :
    AMP Tryd.prog 48 [.ptr 0 0, .int .i64 most, .fn f1 [.ptr 0 0]] (tpM 0 b p en) [0] (OKR (rowsT (b.take en) most one p) (fun l => .view l.length 2 (l.flatMap dataC)) b en) (ERR (rowsT (b.take en) most one p) b en) := by
  have hcount := tcount_ok h most
  have hcm := fun n q => cntT_mv h (most := most) (n := n) (t := q)
  obtain ⟨A, hA⟩ : ∃ A, rowsT (b.take en) most one p = A := ⟨_, rfl⟩
  rw [hA]
  unfold rowsT at hA
  unfold TF OKR ERR tpM at hcount
  unfold OKR ERR tpM at hone
  unfold OKR ERR tpM
  rcases hz : cntT (b.take en) most p with ⟨e, q⟩ | ⟨n, q⟩
  all_goals
    rw [hz] at hA hcount hcm
    simp only [bnd_ok, bnd_err] at hA hcount
    refine AMP.enter Tryd.func48 rfl (Nat.le_of_ble_eq_true rfl) (fun pn => ?_)
    simp only [Tryd.f48]
  · subst hA
    have nx : True := trivial
    refine' stdbb2e8
    all_goals first | exact ⟨trivial, trivial⟩ | exact ⟨rfl, trivial⟩ | exact ⟨rfl, rfl⟩ | exact ⟨trivial, rfl⟩ | (exfalso; omega) | trace_state
  obtain ⟨h2, h3, h4⟩ := hcm _ _ rfl
  obtain ⟨n0, rfl⟩ : ∃ n0 : Nat, n = n0 := ⟨n.toNat, by omega⟩
  have hA : bnd (rowT one n0 q) (fun r t => .ok ([] ++ r, t)) = A := by rw [<- hA, Int.toNat_natCast]; exact bnd_nil _
  have hn0 : n0 <= 100000 := by omega
  clear hcm hz h4
  have nx : True := trivial
  refine' stdbb2e8
  refine AW.loop [0, 2, 7, 8] [0, 7] (fun m st => ∃ (n : Nat) (t : Int) (l : List MData), st = TData pn f1 b en t l n /\ okT b t en /\ l.length + n = n0 /\ bnd (rowT one n t) (fun r t => .ok (l ++ r, t)) = A /\ n = m) ?_ ?_
  · exact ⟨_, n0, q, [], rfl, h2, by simp, hA, rfl⟩
  rintro m st ⟨n, t, l, rfl, ht, hln, hA, rfl⟩
  clear hcount
  rcases n with _ | n
  · rw [rowT] at hA
    simp only [bnd_ok, List.append_nil] at hA
    subst hA
    have hcut : List.take (l.length * 2) (l.flatMap dataC) = l.flatMap dataC := List.take_of_length_le (by rw [flat_len dataC_len]; omega)
    have nx : type_of% @hcut /\ True := ⟨@hcut, trivial⟩
    refine' stdbb2e8
    all_goals first | exact ⟨trivial, trivial⟩ | exact ⟨rfl, trivial⟩ | exact ⟨rfl, rfl⟩ | exact ⟨trivial, rfl⟩ | (exfalso; omega) | trace_state
  · have hone := hone t ht
    have hmv := hmv t
    have e1 : IntKind.i64.wrap (((n + 1 : Nat) : Int) - 1) = (n : Int) := by rw [wrap64_id _ (by omega) (by omega)]; omega
    have d1 : decide (((n + 1 : Nat) : Int) > 0) = true := decide_eq_true (by omega)
    have hcut : List.take (l.length * 2) (l.flatMap dataC) = l.flatMap dataC := List.take_of_length_le (by rw [flat_len dataC_len]; omega)
    rw [rowT] at hA
    rcases hz1 : one t with ⟨e, q⟩ | ⟨x, q⟩
    all_goals
      rw [hz1] at hA hone
      simp only [bnd_ok, bnd_err] at hA hone
    · subst hA
      have nx : type_of% @e1 /\ type_of% @d1 /\ type_of% @hcut /\ True := ⟨@e1, ⟨@d1, ⟨@hcut, trivial⟩⟩⟩
      refine' stdbb2e8
      all_goals first | exact ⟨trivial, trivial⟩ | exact ⟨rfl, trivial⟩ | exact ⟨rfl, rfl⟩ | exact ⟨trivial, rfl⟩ | (exfalso; omega) | trace_state
    · have ht2 := hmv _ _ ht hz1
      rw [bnd_app] at hA
      have hl2 : (l ++ [x]).length = l.length + 1 := by simp
      obtain ⟨xc, xb⟩ := x
      have hs2 : l.flatMap dataC ++ [.view xc.length 6 (codeC xc), .view xb.length 1 (nums .u8 xb)] = (l ++ ([⟨xc, xb⟩] : List MData)).flatMap dataC := (flat_snoc (f := dataC) l (⟨xc, xb⟩ : MData)).symm
      (try unfold dataC at hone)
      have nx : type_of% @e1 /\ type_of% @d1 /\ type_of% @hcut /\ True := ⟨@e1, ⟨@d1, ⟨@hcut, trivial⟩⟩⟩
      refine' stdbb2e8
      all_goals first
        | exact ⟨n, by omega, n, q, l ++ [⟨xc, xb⟩], by rw [TData, hl2, <- hs2]; rfl, ht2, by rw [hl2]; omega, hA, rfl⟩
        | trace_state
end Go.Proofs.YtmomeejfopfchaaDoor
namespace Go.Proofs.YtmomeejfopfchaaDoor
set_option maxRecDepth 20000
open Go Go.Abs
theorem must_t : AMP Tryd.prog 15 [.bool true] [] [] (fun v m => v = .tup [] /\ m = []) (fun _ _ => False) :=
  (must_ok true).mono (fun _ _ h => h.2) (fun _ _ h => absurd h.1 (by decide))
theorem must_f : AMP Tryd.prog 15 [.bool false] [] [] (fun _ _ => False) (fun ch m => ch = fltE 10 /\ m = []) :=
  (must_ok false).mono (fun _ _ h => absurd h.1 (by decide)) (fun _ _ h => h.2)
theorem flat_int (l : List Int) : l.flatMap intC = nums .i64 l := by
  induction l with
  | nil => rfl
  | cons x l ih => rw [List.flatMap_cons, ih]; rfl
theorem nameT_mv {b : List Int} {p : Int} {en : Nat} (h : okT b p en) {l : List UInt8} {t : Int} (he : nameT (b.take en) p = .ok (l, t)) : okT b t en /\ p < t /\ ∃ l0, l = toS l0 /\ bytes l0 /\ validS l0 = true /\ l0.length <= b.length := by
  unfold nameT at he
  rcases hz : bytesT (b.take en) p with ⟨e, q⟩ | ⟨n, q⟩
  · rw [hz, bnd_err] at he; cases he
  · rw [hz, bnd_ok] at he
    obtain ⟨h2, h3, h4, h5⟩ := bytesT_mv h hz
    split at he
    · simp only [Except.ok.injEq, Prod.mk.injEq] at he
      obtain ⟨rfl, rfl⟩ := he
      rename_i hv
      exact ⟨h2, h3, _, rfl, h4, hv, h5⟩
    · cases he
theorem kindT_mv {b : List Int} {p : Int} {en : Nat} (h : okT b p en) {n t : Int} (he : kindT (b.take en) p = .ok (n, t)) : okT b t en /\ p < t /\ (n = 127 \/ n = 126 \/ n = 123) := by
  unfold kindT at he
  rcases hz : byteT (b.take en) p with ⟨e, q⟩ | ⟨m, q⟩
  · rw [hz, bnd_err] at he; cases he
  · rw [hz, bnd_ok] at he
    obtain ⟨h2, h3, h4⟩ := byteT_mv h hz
    split at he
    · simp only [Except.ok.injEq, Prod.mk.injEq] at he
      obtain ⟨rfl, rfl⟩ := he
      rename_i hv
      exact ⟨h2, by omega, hv⟩
    · split at he <;> cases he
theorem rowT_mv {α : Type} {b : List Int} {en : Nat} {one : Int -> Res α} (hone : ∀ t a q, okT b t en -> one t = .ok (a, q) -> okT b q en /\ t <= q) : ∀ (n : Nat) (p : Int) (l : List α) (t : Int), okT b p en -> rowT one n p = .ok (l, t) -> okT b t en /\ p <= t /\ l.length = n
  | 0, p, l, t, h, he => by
    simp only [rowT, Except.ok.injEq, Prod.mk.injEq] at he
    obtain ⟨rfl, rfl⟩ := he
    exact ⟨h, Int.le_refl _, rfl⟩
  | n + 1, p, l, t, h, he => by
    rw [rowT] at he
    rcases hz : one p with ⟨e, q⟩ | ⟨a, q⟩
    · rw [hz, bnd_err] at he; cases he
    · rw [hz, bnd_ok] at he
      obtain ⟨h2, h3⟩ := hone _ _ _ h hz
      rcases hz2 : rowT one n q with ⟨e, r⟩ | ⟨m, r⟩
      · rw [hz2, bnd_err] at he; cases he
      · rw [hz2, bnd_ok] at he
        obtain ⟨h4, h5, h6⟩ := rowT_mv hone n q m r h2 hz2
        simp only [Except.ok.injEq, Prod.mk.injEq] at he
        obtain ⟨rfl, rfl⟩ := he
        exact ⟨h4, by omega, by simp [h6]⟩
theorem rowsI_mv {α : Type} {b : List Int} {p : Int} {en : Nat} {one : Int -> Res α} {most : Int} (h : okT b p en) (hone : ∀ t a q, okT b t en -> one t = .ok (a, q) -> okT b q en /\ t <= q) {l : List α} {t : Int} (he : rowsT (b.take en) most one p = .ok (l, t)) : okT b t en /\ p < t /\ (l.length : Int) <= most := by
  unfold rowsT at he
  rcases hz : cntT (b.take en) most p with ⟨e, q⟩ | ⟨n, q⟩
  · rw [hz, bnd_err] at he; cases he
  · rw [hz, bnd_ok] at he
    obtain ⟨h2, h3, h4⟩ := cntT_mv h hz
    obtain ⟨h5, h6, h7⟩ := rowT_mv hone _ _ _ _ h2 he
    exact ⟨h5, by omega, by omega⟩
end Go.Proofs.YtmomeejfopfchaaDoor
namespace Go.Proofs.YtmomeejfopfchaaDoor
set_option maxRecDepth 20000
open Go Go.Abs Nat
attribute [local irreducible] AW AWL AC FW CW CWr IntKind.wrap
theorem MOneSig.NM : type_of% @NSX /\ type_of% @St.keepS.eq_1 /\ type_of% @TY /\ type_of% @SLS /\ type_of% @nums_length :=
  ⟨NSX, St.keepS.eq_1, @TY, @SLS, @nums_length⟩
open MOneSig
theorem K1OneSig.kp {P : Program} {c : Code} {Q : Exit -> St -> Prop} {st : St} (h : AW P c Q (st.keepS [0, 2, 3])) : AW P c Q st := AW.keepS _ h
theorem K1OneSig.cl {p : Prop} (h : p := by
  first
    | refine AWL.cMP (f := 16) [(0, 0)] cb16 rfl rfl rfl rfl rfl rfl rfl (q0) ?_ ?_
    | refine AWL.cMP (f := 15) [] cb15 rfl rfl rfl rfl rfl rfl rfl (q1) ?_ ?_
    | refine AWL.cMP (f := 35) [(0, 0)] cb35 rfl rfl rfl rfl rfl rfl rfl (q2) ?_ ?_
    | refine AWL.cMP (f := 35) [(0, 0)] cb35 rfl rfl rfl rfl rfl rfl rfl (q3) ?_ ?_
  all_goals (apply_rules (newGoals := .nonDependentOnly) only [dep])
  all_goals constructor) : p := h
theorem K1OneSig.sd {p : Prop} (h : p := by first | exact sd1eb496) : p := h
open K1OneSig in
set_option maxHeartbeats 6400000 in
theorem tsig_ok {b : List Int} {p : Int} {en : Nat} (h : okT b p en) : TF 32 [] b en p (sigT (b.take en) p) (fun x => .agg (sigC x)) := by
  have q0 : True := trivial
  have d1 : True := trivial
  have q1 : True := trivial
  have q2 : True := trivial
  have q3 : True := trivial
  obtain ⟨A, hA⟩ : ∃ A, sigT (b.take en) p = A := ⟨_, rfl⟩
  rw [hA]
  unfold sigT at hA
  unfold TF OKR ERR tpM
  simp only [mustT] at hA
  have q0 := tbyte_ok h
  have m0 := fun x y => byteT_mv h (n := x) (t := y)
  (try unfold TF at q0)
  unfold OKR ERR tpM at q0
  rcases z0 : byteT (b.take en) p with ⟨e, t0⟩ | ⟨c, t0⟩
  all_goals
    rw [z0] at hA q0
    simp only [bnd_ok, bnd_err] at hA q0
  case' error => subst hA
  case' ok =>
    obtain ⟨h0, _, cb⟩ := m0 _ _ z0
    by_cases c1 : c = 96
    case' neg =>
      have q1 := must_f
      have d1 : (c == 96) = false := by first | exact decide_eq_false c1 | (rw [beq_eq_false_iff_ne]; exact c1)
      rw [if_neg c1] at hA
      subst hA
    case' pos =>
      have q1 := must_t
      have d1 : (c == 96) = true := by first | exact decide_eq_true c1 | (rw [beq_iff_eq]; exact c1)
      rw [if_pos c1] at hA
      (try simp only at hA)
      have q2 := rowInt_ok h0 32 (by decide) cb53 (one := kindT (b.take en)) (fun t ht => tkind_ok ht) (fun t a q ht hq => (kindT_mv ht hq).1)
      have m2 := fun x y => rowsI_mv (most := 32) h0 (fun t a q ht hq => ⟨(kindT_mv ht hq).1, Int.le_of_lt (kindT_mv ht hq).2.1⟩) (l := x) (t := y)
      (try unfold TF at q2)
      unfold OKR ERR tpM at q2
      rcases z2 : rowsT (b.take en) 32 (kindT (b.take en)) t0 with ⟨e, t2⟩ | ⟨i, t2⟩
      all_goals
        rw [z2] at hA q2
        simp only [bnd_ok, bnd_err, flat_int] at hA q2
      case' error => subst hA
      case' ok =>
        obtain ⟨h2, ib⟩ := m2 _ _ z2
        have q3 := rowInt_ok h2 32 (by decide) cb53 (one := kindT (b.take en)) (fun t ht => tkind_ok ht) (fun t a q ht hq => (kindT_mv ht hq).1)
        have m3 := fun x y => rowsI_mv (most := 32) h2 (fun t a q ht hq => ⟨(kindT_mv ht hq).1, Int.le_of_lt (kindT_mv ht hq).2.1⟩) (l := x) (t := y)
        (try unfold TF at q3)
        unfold OKR ERR tpM at q3
        rcases z3 : rowsT (b.take en) 32 (kindT (b.take en)) t2 with ⟨e, t3⟩ | ⟨o, t3⟩
        all_goals
          rw [z3] at hA q3
          simp only [bnd_ok, bnd_err, flat_int] at hA q3
        case' error => subst hA
        case' ok =>
          obtain ⟨h3, ob⟩ := m3 _ _ z3
          subst hA
  all_goals
    (try unfold sigC)
    refine AMP.enter Tryd.func32 rfl (Nat.le_of_ble_eq_true rfl) (fun pn => ?_)
    simp only [Tryd.f32]
    have nx : type_of% @d1 /\ True := ⟨@d1, trivial⟩
    refine' st4ac375
    all_goals first | exact ⟨trivial, trivial⟩ | exact ⟨rfl, trivial⟩ | exact ⟨rfl, rfl⟩ | exact ⟨trivial, rfl⟩ | (exfalso; omega) | trace_state
end Go.Proofs.YtmomeejfopfchaaDoor
namespace Go.Proofs.YtmomeejfopfchaaDoor
set_option maxRecDepth 20000
open Go Go.Abs Nat
attribute [local irreducible] AW AWL AC FW CW CWr IntKind.wrap
theorem MOneImp.NM : type_of% @NSX /\ type_of% @St.keepS.eq_1 /\ type_of% @TY /\ type_of% @SLS /\ type_of% @nums_length :=
  ⟨NSX, St.keepS.eq_1, @TY, @SLS, @nums_length⟩
open MOneImp
theorem K1OneImp.kp {P : Program} {c : Code} {Q : Exit -> St -> Prop} {st : St} (h : AW P c Q (st.keepS [0, 2, 3])) : AW P c Q st := AW.keepS _ h
theorem K1OneImp.cl {p : Prop} (h : p := by
  first
    | refine AWL.cMP (f := 19) [(0, 0)] cb19 rfl rfl rfl rfl rfl rfl rfl (q0) ?_ ?_
    | refine AWL.cMP (f := 19) [(0, 0)] cb19 rfl rfl rfl rfl rfl rfl rfl (q1) ?_ ?_
    | refine AWL.cMP (f := 16) [(0, 0)] cb16 rfl rfl rfl rfl rfl rfl rfl (q2) ?_ ?_
    | refine AWL.cMP (f := 15) [] cb15 rfl rfl rfl rfl rfl rfl rfl (q3) ?_ ?_
    | refine AWL.cMP (f := 18) [(0, 0)] cb18 rfl rfl rfl rfl rfl rfl rfl (q4) ?_ ?_
  all_goals (apply_rules (newGoals := .nonDependentOnly) only [dep])
  all_goals constructor) : p := h
theorem K1OneImp.sd {p : Prop} (h : p := by first | exact sd1eb496) : p := h
open K1OneImp in
set_option maxHeartbeats 6400000 in
theorem timported_ok {b : List Int} {p : Int} {en : Nat} (h : okT b p en) : TF 34 [] b en p (impT (b.take en) p) (fun x => .agg (impC x)) := by
  have q0 : True := trivial
  have q1 : True := trivial
  have q2 : True := trivial
  have d3 : True := trivial
  have q3 : True := trivial
  have q4 : True := trivial
  obtain ⟨A, hA⟩ : ∃ A, impT (b.take en) p = A := ⟨_, rfl⟩
  rw [hA]
  unfold impT at hA
  unfold TF OKR ERR tpM
  simp only [mustT] at hA
  have q0 := tname_ok h
  have m0 := fun x y => nameT_mv h (l := x) (t := y)
  (try unfold TF at q0)
  unfold OKR ERR tpM at q0
  rcases z0 : nameT (b.take en) p with ⟨e, t0⟩ | ⟨m, t0⟩
  all_goals
    rw [z0] at hA q0
    simp only [bnd_ok, bnd_err] at hA q0
  case' error => subst hA
  case' ok =>
    obtain ⟨h0, _, mb⟩ := m0 _ _ z0
    have q1 := tname_ok h0
    have m1 := fun x y => nameT_mv h0 (l := x) (t := y)
    (try unfold TF at q1)
    unfold OKR ERR tpM at q1
    rcases z1 : nameT (b.take en) t0 with ⟨e, t1⟩ | ⟨n, t1⟩
    all_goals
      rw [z1] at hA q1
      simp only [bnd_ok, bnd_err] at hA q1
    case' error => subst hA
    case' ok =>
      obtain ⟨h1, _, nb⟩ := m1 _ _ z1
      have q2 := tbyte_ok h1
      have m2 := fun x y => byteT_mv h1 (n := x) (t := y)
      (try unfold TF at q2)
      unfold OKR ERR tpM at q2
      rcases z2 : byteT (b.take en) t1 with ⟨e, t2⟩ | ⟨c, t2⟩
      all_goals
        rw [z2] at hA q2
        simp only [bnd_ok, bnd_err] at hA q2
      case' error => subst hA
      case' ok =>
        obtain ⟨h2, _, cb⟩ := m2 _ _ z2
        by_cases c3 : c = 0
        case' neg =>
          have q3 := must_f
          have d3 : (c == 0) = false := by first | exact decide_eq_false c3 | (rw [beq_eq_false_iff_ne]; exact c3)
          rw [if_neg c3] at hA
          subst hA
        case' pos =>
          have q3 := must_t
          have d3 : (c == 0) = true := by first | exact decide_eq_true c3 | (rw [beq_iff_eq]; exact c3)
          rw [if_pos c3] at hA
          (try simp only at hA)
          have q4 := tnum_ok h2
          have m4 := fun x y => nmT_mv h2 (n := x) (t := y)
          (try unfold TF at q4)
          unfold OKR ERR tpM at q4
          rcases z4 : nmT (b.take en) t2 with ⟨e, t4⟩ | ⟨i, t4⟩
          all_goals
            rw [z4] at hA q4
            simp only [bnd_ok, bnd_err] at hA q4
          case' error => subst hA
          case' ok =>
            obtain ⟨h4, _, ib⟩ := m4 _ _ z4
            subst hA
  all_goals
    (try unfold impC)
    refine AMP.enter Tryd.func34 rfl (Nat.le_of_ble_eq_true rfl) (fun pn => ?_)
    simp only [Tryd.f34]
    have nx : type_of% @d3 /\ True := ⟨@d3, trivial⟩
    refine' stfd9c13
    all_goals first | exact ⟨trivial, trivial⟩ | exact ⟨rfl, trivial⟩ | exact ⟨rfl, rfl⟩ | exact ⟨trivial, rfl⟩ | (exfalso; omega) | trace_state
end Go.Proofs.YtmomeejfopfchaaDoor
