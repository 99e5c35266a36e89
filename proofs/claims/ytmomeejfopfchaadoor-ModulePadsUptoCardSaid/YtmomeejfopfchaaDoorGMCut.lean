/- Rules for Decode. -/
import Derived.Test.YtmomeejfopfchaaDoorGTy
import Derived.Test.YtmomeejfopfchaaDoorGTabs
import Derived.Test.YtmomeejfopfchaaDoorDP
import Derived.Test.YtmomeejfopfchaaDoorCB
import Derived.Test.YtmomeejfopfchaaDoorGEFld3
import Derived.Test.YtmomeejfopfchaaDoorGMT6
import Derived.Test.YtmomeejfopfchaaDoorGMSec
import Derived.Test.YtmomeejfopfchaaDoorRows
import Derived.Lib.LaidU8
import Derived.Test.YtmomeejfopfchaaDoorGOneImp
set_option linter.unusedSimpArgs false
set_option linter.unusedVariables false
namespace Go.Abs
set_option maxRecDepth 20000
open Go Go.RowKit
section
variable {P : Program} {st : St} {Q : Exit -> St -> Prop} {ops : Array Oper} {rest : List Oper} {o : Oper}
theorem AWL.tassert1 {xt t : TypeId} {x : Operand} {d : Nat} {k : IntKind} {n : Int} (hg : o.guard = none) (ho : o.op = .typeAssert x xt t true) (hd : o.dst = some d) (hdn : Nat.ble (d + 1) st.n = true) (hx : st.ev x = .con (.iface t (.agg #[.int k n]))) (hi : ifaceT P t = false)
    (k' : AWL P ops rest Q (st.put d (.tup [.agg [.int k n], .bool true]))) : AWL P ops (o :: rest) Q st := AWL.tassert (l := [.int k n]) hg ho hd hdn hx rfl hi k'
theorem AW.keepPost {c : Code} (is ks : List Nat) (h : AW P c (fun e s => Q e (s.keep is ks)) st) : AW P c Q st := fun C a w hs =>
  wp_mono (h C a w hs) fun _ _ _ ⟨s, hq, S, β, hs⟩ => ⟨_, hq, S, β, hs.keep is ks⟩
end
end Go.Abs
namespace Go.Proofs.YtmomeejfopfchaaDoor
set_option maxRecDepth 20000
open Go Go.Abs Nat
theorem cb50 : callable Tryd.prog 50 = true := by kernel_rfl
attribute [local irreducible] AW AWL AC FW CW CWr IntKind.wrap
def modZ : List V := [.nils, .nils, .nils, .nils, .nils, .nils, .nils, .int .i64 0, .nils, .nils, .nils]
theorem MAMD.NM : type_of% @NSX /\ type_of% @St.keepS.eq_1 /\ type_of% @TY /\ type_of% @SLS /\ type_of% @nums_length /\ type_of% @modZ.eq_1 :=
  ⟨NSX, St.keepS.eq_1, @TY, @SLS, @nums_length, @modZ.eq_1⟩
open MAMD
theorem K1AMD.kp {P : Program} {c : Code} {Q : Exit -> St -> Prop} {st : St} (h : AW P c Q (st.keepS [0, 1, 2, 3, 4])) : AW P c Q st := AW.keepS _ h
theorem K1AMD.sd {p : Prop} (h : p := by first | exact sdde3ed6) : p := h
theorem K2AMD.kp {P : Program} {c : Code} {Q : Exit -> St -> Prop} {st : St} (h : AW P c Q (st.keepS [0, 1, 2, 3, 4])) : AW P c Q st := AW.keepS _ h
theorem K2AMD.att {p : Prop} (h : p := by
  first
    | (first | (refine AT.takeF (L := (bA 5 0)) (L' := (bA 5 2)) 1 rfl rfl rfl rfl rfl rfl rfl rfl panA (by decide +kernel) (by decide +kernel) ?_; (try (conv => arg -1; simp (disch := omega) only [NM, Nat.reduceBEq, reduceAdd, reduceMul, Int.reduceToNat, reduceSub, List.set_cons_zero, List.set_cons_succ, nx]))) | refine AT.step (L := (bA 5 2)) [0, 2] (by decide +kernel) (by decide) (memL2 ⟨_, (bA 5 3), rfl, (by decide +kernel), ?_⟩ ⟨_, (bA 5 6), rfl, (by decide +kernel), ?_⟩) | refine AT.step (L := (bA 5 6)) [0] (by decide +kernel) (by decide) (memL1 ⟨_, (bA 5 7), rfl, (by decide +kernel), ?_⟩) | refine AT.step (L := (bA 5 7)) [3] (by decide +kernel) (by decide) (memL1 ⟨_, (bA 5 15), rfl, (by decide +kernel), ?_⟩) | refine AT.step (L := (bA 5 15)) [4] (by decide +kernel) (by decide) (memL1 ⟨_, (bA 5 31), rfl, (by decide +kernel), ?_⟩) | refine AT.done (L := (bA 5 31)) (by decide +kernel) ?_ | refine AT.step (L := (bA 5 3)) [2, 3] (by decide +kernel) (by decide) (memL2 ⟨_, (bA 5 7), rfl, (by decide +kernel), ?_⟩ ⟨_, (bA 5 11), rfl, (by decide +kernel), ?_⟩) | refine AT.step (L := (bA 5 11)) [2] (by decide +kernel) (by decide) (memL1 ⟨_, (bA 5 15), rfl, (by decide +kernel), ?_⟩) | (refine AT.takeM (L := (bA 8 0)) (L' := (bA 8 1)) 0 rfl rfl rfl rfl rfl panA (by decide +kernel) (by decide +kernel) ?_; (try (conv => arg -1; simp (disch := omega) only [NM, Nat.reduceBEq, reduceAdd, reduceMul, Int.reduceToNat, reduceSub, List.set_cons_zero, List.set_cons_succ, nx]))) | refine AT.step (L := (bA 8 1)) [1, 5] (by decide +kernel) (by decide) (memL2 ⟨_, (bA 8 3), rfl, (by decide +kernel), ?_⟩ ⟨_, (bA 8 33), rfl, (by decide +kernel), ?_⟩) | refine AT.step (L := (bA 8 33)) [1] (by decide +kernel) (by decide) (memL1 ⟨_, (bA 8 35), rfl, (by decide +kernel), ?_⟩) | (refine AT.takeM (L := (bA 8 35)) (L' := (bA 8 39)) 2 rfl rfl rfl rfl rfl panA (by decide +kernel) (by decide +kernel) ?_; (try (conv => arg -1; simp (disch := omega) only [NM, Nat.reduceBEq, reduceAdd, reduceMul, Int.reduceToNat, reduceSub, List.set_cons_zero, List.set_cons_succ, nx]))) | (refine AT.takeX (L := (bA 8 39)) (L' := (bA 8 47)) 3 rfl rfl rfl rfl rfl rfl rfl panA (by decide +kernel) (by decide +kernel) ?_; (try (conv => arg -1; simp (disch := omega) only [NM, Nat.reduceBEq, reduceAdd, reduceMul, Int.reduceToNat, reduceSub, List.set_cons_zero, List.set_cons_succ, nx]))) | (refine AT.takeX (L := (bA 8 47)) (L' := (bA 8 63)) 4 rfl rfl rfl rfl rfl rfl rfl panA (by decide +kernel) (by decide +kernel) ?_; (try (conv => arg -1; simp (disch := omega) only [NM, Nat.reduceBEq, reduceAdd, reduceMul, Int.reduceToNat, reduceSub, List.set_cons_zero, List.set_cons_succ, nx]))) | refine AT.step (L := (bA 8 63)) [6] (by decide +kernel) (by decide) (memL1 ⟨_, (bA 8 127), rfl, (by decide +kernel), ?_⟩) | refine AT.step (L := (bA 8 127)) [7] (by decide +kernel) (by decide) (memL1 ⟨_, (bA 8 255), rfl, (by decide +kernel), ?_⟩) | refine AT.done (L := (bA 8 255)) (by decide +kernel) ?_ | (refine AT.takeM (L := (bA 8 3)) (L' := (bA 8 7)) 2 rfl rfl rfl rfl rfl panA (by decide +kernel) (by decide +kernel) ?_; (try (conv => arg -1; simp (disch := omega) only [NM, Nat.reduceBEq, reduceAdd, reduceMul, Int.reduceToNat, reduceSub, List.set_cons_zero, List.set_cons_succ, nx]))) | (refine AT.takeX (L := (bA 8 7)) (L' := (bA 8 15)) 3 rfl rfl rfl rfl rfl rfl rfl panA (by decide +kernel) (by decide +kernel) ?_; (try (conv => arg -1; simp (disch := omega) only [NM, Nat.reduceBEq, reduceAdd, reduceMul, Int.reduceToNat, reduceSub, List.set_cons_zero, List.set_cons_succ, nx]))) | (refine AT.takeX (L := (bA 8 15)) (L' := (bA 8 31)) 4 rfl rfl rfl rfl rfl rfl rfl panA (by decide +kernel) (by decide +kernel) ?_; (try (conv => arg -1; simp (disch := omega) only [NM, Nat.reduceBEq, reduceAdd, reduceMul, Int.reduceToNat, reduceSub, List.set_cons_zero, List.set_cons_succ, nx]))) | refine AT.step (L := (bA 8 31)) [5] (by decide +kernel) (by decide) (memL1 ⟨_, (bA 8 63), rfl, (by decide +kernel), ?_⟩))
  all_goals (apply_rules (newGoals := .nonDependentOnly) only [dep])
  all_goals constructor) : p := h
theorem K2AMD.sd {p : Prop} (h : p := by first | exact sdde3ed6) : p := h
open K1AMD in
set_option maxHeartbeats 3200000 in
theorem amd_ret (v0 v1 v2 v3 v4 v5 v6 v7 v8 v9 : List V) (n0 n1 n2 n3 n4 n5 n6 n7 n8 n9 s0 s1 s2 s3 s4 s5 s6 s7 s8 s9 : Nat) (x e : Int) : AMD Tryd.prog 14 [.ptr 0 0, .ptr 1 0]
    [(0, ⟨false, [.view n0 s0 v0, .view n1 s1 v1, .view n2 s2 v2, .view n3 s3 v3, .view n4 s4 v4, .view n5 s5 v5, .view n6 s6 v6, .int .i64 x, .view n7 s7 v7, .view n8 s8 v8, .view n9 s9 v9]⟩), (1, ⟨false, [.int .i64 e]⟩)] [0, 1] .returning .returning
    [(0, ⟨false, [.view n0 s0 v0, .view n1 s1 v1, .view n2 s2 v2, .view n3 s3 v3, .view n4 s4 v4, .view n5 s5 v5, .view n6 s6 v6, .int .i64 x, .view n7 s7 v7, .view n8 s8 v8, .view n9 s9 v9]⟩), (1, ⟨false, [.int .i64 e]⟩)] := by
  refine AMD.enter Tryd.func14 (rv := .nilIface) rfl (Nat.le_of_ble_eq_true rfl) ⟨rfl, rfl, rfl⟩ ⟨rfl, rfl, rfl⟩ (Nat.le_of_ble_eq_true rfl) (Nat.le_of_ble_eq_true rfl) (fun c0 cs h => .inr ⟨by simp [recoverD, h], rfl, rfl⟩) (fun pn => ?_)
  simp only [Tryd.f14]
  have nx : True := trivial
  refine' stf11c47
open K2AMD in
set_option maxHeartbeats 3200000 in
theorem amd_pan (v0 v1 v2 v3 v4 v5 v6 v7 v8 v9 : List V) (n0 n1 n2 n3 n4 n5 n6 n7 n8 n9 s0 s1 s2 s3 s4 s5 s6 s7 s8 s9 : Nat) (x e0 e : Int) : AMD Tryd.prog 14 [.ptr 0 0, .ptr 1 0]
    [(0, ⟨false, [.view n0 s0 v0, .view n1 s1 v1, .view n2 s2 v2, .view n3 s3 v3, .view n4 s4 v4, .view n5 s5 v5, .view n6 s6 v6, .int .i64 x, .view n7 s7 v7, .view n8 s8 v8, .view n9 s9 v9]⟩), (1, ⟨false, [.int .i64 e0]⟩)] [0, 1] (.panicking (fltE e)) (.panicking [{ v := .iface 57 (.agg #[.int .i64 e]), recovered := true }])
    [(0, ⟨false, modZ⟩), (1, ⟨false, [.int .i64 e]⟩)] := by
  refine AMD.enter Tryd.func14 (rv := .iface 57 (.agg #[.int .i64 e])) rfl (Nat.le_of_ble_eq_true rfl) ⟨rfl, rfl, rfl⟩ ⟨rfl, rfl, rfl⟩ (Nat.le_of_ble_eq_true rfl) (Nat.le_of_ble_eq_true rfl) (fun c0 cs h => .inl (by simp [recoverD, h, fltE])) (fun pn => ?_)
  simp only [Tryd.f14]
  have nx : True := trivial
  refine' st252715
  refine AW.drawT (L0 := (bA 5 0)) (by decide +kernel) hmix ?_
  have nx : True := trivial
  refine' st350d63
end Go.Proofs.YtmomeejfopfchaaDoor
namespace Go.Proofs.YtmomeejfopfchaaDoor
set_option maxRecDepth 20000
open Go Go.Abs Nat
def hdB : List Int := [0, 97, 115, 109, 1, 0, 0, 0]
def DecR (x : Res Mod) (v : V) (mm : List (Nat × List V)) : Prop := mm = [] /\ match x with
  | .ok (m, _) => v = .tup [.agg (modC m), .int .i64 0]
  | .error (e, _) => v = .tup [.agg modZ, .int .i64 e]
def sD1 (b : List Int) : St := { n := 76, slots := [(0, .view b.length 1 (nums .u8 b)), (2, .ptr 2 0), (3, .ptr 3 0)], mem := [(2, ⟨false, modZ⟩), (3, ⟨false, [.int .i64 0]⟩)] }
def sD2 (b : List Int) : St := { n := 76, slots := [(0, .view b.length 1 (nums .u8 b)), (2, .ptr 2 0), (3, .ptr 3 0), (12, .bool false)], mem := [(2, ⟨false, modZ⟩), (3, ⟨false, [.int .i64 0]⟩)] }
def Th (pn : Nat -> Option BI) (b : List Int) (p : Int) (i : Nat) : St := { n := 76, slots := [(2, .ptr 2 0), (3, .ptr 3 0), (4, .ptr 19 0), (21, .ref 20 0 8 1), (22, .int .i64 8), (23, .int .i64 i)], mem := [(2, ⟨false, modC mod0⟩), (3, ⟨false, [.int .i64 0]⟩), (19, ⟨false, [.view b.length 1 (nums .u8 b), .int .i64 p, .int .i64 b.length]⟩), (20, ⟨true, nums .u8 hdB⟩)], lent := [(2, pn 2), (3, pn 3)] }
def Ts (pn : Nat -> Option BI) (b : List Int) (p last : Int) (m : Mod) : St := { n := 76, slots := [(2, .ptr 2 0), (3, .ptr 3 0), (4, .ptr 19 0), (7, .int .u8 last)], mem := [(2, ⟨false, modC m⟩), (3, ⟨false, [.int .i64 0]⟩), (19, ⟨false, [.view b.length 1 (nums .u8 b), .int .i64 p, .int .i64 b.length]⟩)], lent := [(2, pn 2), (3, pn 3)] }
theorem wkZ : WkL modZ (modC mod0) :=
  .cons (Wk.nils 2) (.cons (Wk.nils 3) (.cons (Wk.nils 1) (.cons (Wk.nils 2) (.cons (Wk.nils 2) (.cons (Wk.nils 3) (.cons (Wk.nils 3) (.cons (Wk.refl _) (.cons (Wk.nils 2) (.cons (Wk.nils 2) (.cons (Wk.nils 2) .nil))))))))))
theorem le12 {A C : Prop} {p t : Int} (h : A /\ p < t /\ C) : A /\ p <= t := ⟨h.1, Int.le_of_lt h.2.1⟩
theorem secT_mv {b : List Int} {p : Int} {en : Nat} (h : okT b p en) {id : Int} {m x : Mod} {t : Int} (he : secT (b.take en) id m p = .ok (x, t)) : okT b t en /\ p <= t := by
  have key : ∀ {α : Type} (y : Res α) (f : α -> Mod), (∀ a t, y = .ok (a, t) -> okT b t en /\ p <= t) -> bnd y (fun l t => .ok (f l, t)) = .ok (x, t) -> okT b t en /\ p <= t := by
    intro α y f hy hb
    rcases y with ⟨e, t0⟩ | ⟨a, t0⟩
    · rw [bnd_err] at hb; cases hb
    · rw [bnd_ok] at hb; cases hb; exact hy _ _ rfl
  unfold secT at he
  by_cases c1 : id = 1
  · rw [if_pos c1] at he; exact key _ _ (fun a t hq => le12 (rowsI_mv h (fun t a q ht hq => sigT_mv ht hq) hq)) he
  rw [if_neg c1] at he
  by_cases c2 : id = 2
  · rw [if_pos c2] at he; exact key _ _ (fun a t hq => le12 (rowsI_mv h (fun t a q ht hq => impT_mv ht hq) hq)) he
  rw [if_neg c2] at he
  by_cases c3 : id = 3
  · rw [if_pos c3] at he; exact key _ _ (fun a t hq => le12 (rowsI_mv h (fun t a q ht hq => ⟨(nmT_mv ht hq).1, Int.le_of_lt (nmT_mv ht hq).2.1⟩) hq)) he
  rw [if_neg c3] at he
  by_cases c4 : id = 4
  · rw [if_pos c4] at he; exact key _ _ (fun a t hq => le12 (rowsI_mv h (fun t a q ht hq => tabT_mv ht hq) hq)) he
  rw [if_neg c4] at he
  by_cases c5 : id = 5
  · rw [if_pos c5] at he; exact key _ _ (fun a t hq => le12 (rowsI_mv h (fun t a q ht hq => limT_mv ht hq) hq)) he
  rw [if_neg c5] at he
  by_cases c6 : id = 6
  · rw [if_pos c6] at he; exact key _ _ (fun a t hq => le12 (rowsI_mv h (fun t a q ht hq => globT_mv ht hq) hq)) he
  rw [if_neg c6] at he
  by_cases c7 : id = 7
  · rw [if_pos c7] at he; exact key _ _ (fun a t hq => le12 (rowsI_mv h (fun t a q ht hq => expT_mv ht hq) hq)) he
  rw [if_neg c7] at he
  by_cases c8 : id = 8
  · rw [if_pos c8] at he; exact key _ _ (fun a t hq => ⟨(nmT_mv h hq).1, Int.le_of_lt (nmT_mv h hq).2.1⟩) he
  rw [if_neg c8] at he
  by_cases c9 : id = 9
  · rw [if_pos c9] at he; exact key _ _ (fun a t hq => le12 (rowsI_mv h (fun t a q ht hq => elemT_mv ht hq) hq)) he
  rw [if_neg c9] at he
  by_cases c10 : id = 10
  · rw [if_pos c10] at he; exact key _ _ (fun a t hq => le12 (rowsI_mv h (fun t a q ht hq => codeT_mv ht hq) hq)) he
  rw [if_neg c10] at he
  by_cases c11 : id = 11
  · rw [if_pos c11] at he; exact key _ _ (fun a t hq => le12 (rowsI_mv h (fun t a q ht hq => dataT_mv ht hq) hq)) he
  rw [if_neg c11] at he
  cases he; exact ⟨h, Int.le_refl _⟩
theorem done_mv {xs : List Int} {α : Type} {a : α} {t : Int} : doneT xs a t = if t = xs.length then .ok (a, t) else .error (10, t) := rfl
theorem inT_eq {α : Type} (xs : List Int) (f : List Int -> Int -> Res α) (s : Int) (en : Nat) : inT xs f s (en : Int) = match f (xs.take en) s with | .ok (a, _) => .ok (a, (en : Int)) | .error (e, _) => .error (e, (en : Int)) := by
  unfold inT; rw [Int.toNat_natCast]
  rcases f (xs.take en) s with ⟨e, q⟩ | ⟨a, q⟩ <;> rfl
theorem AW.cutN {P : Program} {c : Code} {Q : Exit -> St -> Prop} {st : St} (is ks : List Nat) (T : St) (h1 : AW P c (fun e s => e = .normal /\ s.keep is ks = T) st) (h2 : Q .normal T) : AW P c Q st :=
  AW.keepPost is ks (AW.mono h1 fun e s h => by obtain ⟨rfl, hs⟩ := h; rw [hs]; exact h2)
def Tsb (pn : Nat -> Option BI) (b : List Int) (p last : Int) (m : Mod) (B : Bool) : St := { n := 76, slots := [(2, .ptr 2 0), (3, .ptr 3 0), (4, .ptr 19 0), (7, .int .u8 last), (42, .bool B)], mem := [(2, ⟨false, modC m⟩), (3, ⟨false, [.int .i64 0]⟩), (19, ⟨false, [.view b.length 1 (nums .u8 b), .int .i64 p, .int .i64 b.length]⟩)], lent := [(2, pn 2), (3, pn 3)] }
theorem lent2 {pn : Nat -> Option BI} : ∀ p ∈ [(0, 2), (1, 3)], lk [(2, pn 2), (3, pn 3)] p.2 = some (pn p.2) := by
  intro p hp
  rcases List.mem_cons.1 hp with rfl | hp
  · rfl
  rcases List.mem_cons.1 hp with rfl | hp
  · rfl
  cases hp
def decK2 (x : Res Mod) : Res Mod := bnd x fun m t => mustT (m.codes.length = m.funcs.length) (fun t => .ok (m, t)) t
def decK (xs : List Int) (x : Res Unit) : Res Mod := bnd x fun _ t => decK2 (secsT xs xs.length 0 { mod0 with start := -1 } t)
theorem enterD2 {P : Program} {f g : FuncId} {fn : Func} {A D F : Code} {id : Nat} {mk df : Oper} {x1 x2 : Operand} {k1 k2 dm d : Nat} {args : List V} {R : V -> List (Nat × List V) -> Prop} {s1 s3 : St} {o1 o2 : Obj1}
    (hf : P.funcs[f]? = some fn) (hb : fn.body = some (.seq A (.seq D (.seq (.region id #[mk, df] false) F)))) (hn : args.length <= fn.ntmps) (hcg : callable P g = true)
    (hA : AW P A (fun e s => e = .normal /\ s = s1) (st0 fn.ntmps args)) (hD : AW P D (fun e s => (e = .ret /\ EndQ P fn.results.toList R .ret s) \/ (e = .normal /\ s = s3)) s1)
    (hm : mk.op = .makeFunc (.func g) #[] #[x1, x2] /\ mk.dst = some dm /\ mk.guard = none) (hd : df.op = .defer { callee := .value (.tmp dm), args := #[], argTypes := #[] } /\ df.dst = none /\ df.guard = none) (hdm : dm < s3.n)
    (hx1 : s3.ev x1 = .ptr k1 0) (hx2 : s3.ev x2 = .ptr k2 0) (hk : (k1 == k2) = false) (ho1 : s3.obj k1 = some o1) (ho2 : s3.obj k2 = some o2) (hl : s3.lent = [])
    (hF : ∀ pn : Nat -> Option BI, AW P F (EndD P fn g [(0, k1), (1, k2)] [0, 1] d R pn) { s3.put dm .any with lent := [(k1, pn k1), (k2, pn k2)] }) : AC P f args R := by
  intro S w us hS hlen hargs
  refine calls_of_wp_defers hf hb ?_
  have sep : ∀ b, S b -> ¬ False := fun _ _ h => h
  let C : Ctx := ⟨S, w, fun _ => False, hS, sep, []⟩
  have hinit : SR C S (fun _ => none) (st0 fn.ntmps args) { tmps := us.toArray ++ Array.replicate (fn.ntmps - us.toArray.size) undef, defers := [] } w := {
    tsize := by simp [st0]; omega
    slots := fun i => by
      simp only [St.get, st0, get_argSlots, Nat.zero_le, if_true, Nat.sub_zero]
      cases hi : args[i]? with
      | none => exact .any _
      | some v =>
        have hlt : i < us.length := by rw [<- hlen]; exact (List.getElem?_eq_some_iff.1 hi).1
        have hu : us[i]? = some us[i] := List.getElem?_eq_getElem hlt
        have : (us.toArray ++ Array.replicate (fn.ntmps - us.toArray.size) undef).getD i undef = us[i] := by
          rw [Array.getD_eq_getD_getElem?, Array.getElem?_append_left (by simpa using hlt)]
          simp [hlt]
        rw [this]
        exact hargs i v _ hi hu
    defers := rfl
    objs := fun k o ho => by simp [St.obj, st0, lk] at ho
    inj := fun k k' bi bi' hk => by simp [St.obj, st0, lk] at hk
    own := fun k bi hk => by simp [St.obj, st0, lk] at hk
    pins := fun k bi hk => by simp [st0] at hk
    sub := fun b hb => hb
    snew := fun b hb => .inl hb
    slt := hS.1
    frame := ⟨rfl, rfl, rfl, Nat.le_refl _, fun _ _ _ => rfl⟩ }
  refine wp_seq (wp_mono (hA C _ w ⟨S, _, hinit⟩) fun e a w1 ⟨s, ⟨he, hs⟩, hr⟩ => ?_)
  subst he hs
  refine wp_seq (wp_mono (hD C a w1 hr) fun e a w3 ⟨s, hc, hr⟩ => ?_)
  rcases hc with ⟨he, hq⟩ | ⟨he, hs⟩
  · subst he
    obtain ⟨S', β', hs⟩ := hr
    obtain ⟨u, hrun, r, m, hR, hO⟩ := endQ_out hs hq
    show Leaves P fn a.tmps _ a.defers .returning w3
    rw [hs.defers]
    exact ⟨u, hrun, r, m, u, hR, rfl, hO⟩
  · subst he hs
    obtain ⟨S', β', hs⟩ := hr
    refine wp_seq (wp_deferRegion hm hd (by rw [hs.tsize]; exact hdm) ?_)
    obtain ⟨b1, hb1, hp1⟩ := VR.ptr_inv (hx1 ▸ ev_VR hs x1)
    obtain ⟨b2, hb2, hp2⟩ := VR.ptr_inv (hx2 ▸ ev_VR hs x2)
    have hkn : k1 ≠ k2 := by simpa using hk
    have hus : ((#[x1, x2] : Array Operand).map a.eval) = #[.pointer (some ⟨b1.blk, b1.off, none⟩), .pointer (some ⟨b2.blk, b2.off, none⟩)] := by
      simp [hp1, hp2]
    have h1 := hs.put (d := dm) (v := .any) (u := .func (.func g) #[] ((#[x1, x2] : Array Operand).map a.eval)) hdm (.any _)
    let pn : Nat -> Option BI := fun k => if k = k1 then some b1 else some b2
    have e1 : pn k1 = some b1 := if_pos rfl
    have e2 : pn k2 = some b2 := if_neg fun h => hkn h.symm
    have h2 : SR ⟨S, w, fun _ => False, hS, sep, [{ target := .fn (.func g) ((#[x1, x2] : Array Operand).map a.eval), args := #[] }]⟩ S' β' { s.put dm .any with lent := [(k1, pn k1), (k2, pn k2)] }
        { a.put (some dm) (.func (.func g) #[] ((#[x1, x2] : Array Operand).map a.eval)) with defers := { target := .fn (.func g) ((#[x1, x2] : Array Operand).map a.eval), args := #[] } :: a.defers } w3 := {
      tsize := h1.tsize, slots := h1.slots
      defers := by show _ :: a.defers = [_]; rw [hs.defers]
      objs := h1.objs, inj := h1.inj
      own := fun k bi hk hbi => ⟨(h1.own k bi hk hbi).1, .inl ((h1.own k bi hk hbi).2.resolve_right fun h => h.1)⟩
      pins := fun k bi hk => by
        simp only [List.mem_cons, Prod.mk.injEq, List.not_mem_nil, or_false] at hk
        rcases hk with ⟨rfl, h⟩ | ⟨rfl, h⟩
        · rw [e1] at h; cases h; exact hb1
        · rw [e2] at h; cases h; exact hb2
      sub := h1.sub, snew := h1.snew, slt := h1.slt, frame := h1.frame }
    refine wp_mono (hF pn _ _ _ ⟨S', β', h2⟩) fun e a w4 ⟨s4, he, S4, β4, h4⟩ => ?_
    refine endD_leaves hcg ⟨by simp, fun j p u hp hu => ?_⟩ h4 he
    rw [hus] at hu
    match j with
    | 0 => simp at hp hu; subst hp hu; exact ⟨b1, e1, rfl⟩
    | 1 => simp at hp hu; subst hp hu; exact ⟨b2, e2, rfl⟩
    | j + 2 => simp at hp
attribute [local irreducible] AW AWL AC FW CW CWr IntKind.wrap
theorem MMDec.NM : type_of% @NSX /\ type_of% @St.keepS.eq_1 /\ type_of% @TY /\ type_of% @SLS /\ type_of% @nums_length /\ type_of% @modC.eq_1 /\ type_of% @modZ.eq_1 /\ type_of% @mod0.eq_1 /\ type_of% @hdB.eq_1 /\ type_of% @sD1.eq_1 /\ type_of% @sD2.eq_1 /\ type_of% @Th.eq_1 /\ type_of% @Ts.eq_1 /\ type_of% @Tsb.eq_1 :=
  ⟨NSX, St.keepS.eq_1, @TY, @SLS, @nums_length, @modC.eq_1, @modZ.eq_1, @mod0.eq_1, @hdB.eq_1, @sD1.eq_1, @sD2.eq_1, @Th.eq_1, @Ts.eq_1, @Tsb.eq_1⟩
open MMDec
theorem K1MDec.kp {P : Program} {c : Code} {Q : Exit -> St -> Prop} {st : St} (h : AW P c Q (st.keepS [0, 2, 3, 4, 6, 7, 8, 9, 21, 22, 23])) : AW P c Q st := AW.keepS _ h
theorem K1MDec.cl {p : Prop} (h : p := by
  first
    | refine AWL.cMP (f := 16) [(0, 19)] cb16 rfl rfl rfl rfl rfl rfl rfl (q0) ?_ ?_
    | refine AWL.cMP (f := 15) [] cb15 rfl rfl rfl rfl rfl rfl rfl (q1) ?_ ?_
    | refine AWL.cMP (f := 18) [(0, 19)] cb18 rfl rfl rfl rfl rfl rfl rfl (q2) ?_ ?_
    | refine AWL.cMP (f := 17) [(0, 19)] cb17 rfl rfl rfl rfl rfl rfl rfl (q3) ?_ ?_
    | refine AWL.cMP (f := 19) [(0, 34048)] cb19 rfl rfl rfl rfl rfl rfl rfl (q4) ?_ ?_
    | refine AWL.cMP (f := 20) [(0, 34048), (1, 2)] cb20 rfl rfl rfl rfl rfl rfl rfl (q5) ?_ ?_
    | refine AWL.cMP (f := 21) [(0, 34048)] cb21 rfl rfl rfl rfl rfl rfl rfl (q6) ?_ ?_
  all_goals (apply_rules (newGoals := .nonDependentOnly) only [dep])
  all_goals constructor) : p := h
theorem K1MDec.sd {p : Prop} (h : p := by first | exact sd1eb496) : p := h
open K1MDec in
set_option maxHeartbeats 12800000 in
theorem dec_raw (b : List Int) (hb : bytes b) (hl : b.length <= 16384) : AC Tryd.prog 9 [.view b.length 1 (nums .u8 b)] (DecR (anyT b)) := by
  obtain ⟨X, hX⟩ : ∃ X, anyT b = X := ⟨_, rfl⟩
  rw [hX]
  have hX : decK b (headT b hdB 0) = X := hX
  have q0 : True := trivial
  have q1 : True := trivial
  have q2 : True := trivial
  have q3 : True := trivial
  have q4 : True := trivial
  have q5 : True := trivial
  have q6 : True := trivial
  have d12 : decide ((b.length : Int) > 16384) = false := decide_eq_false (by omega)
  refine enterD2 (s1 := sD1 b) (s3 := sD2 b) (d := 75) (x1 := .tmp 2) (x2 := .tmp 3) (k1 := 2) (k2 := 3) (o1 := ⟨false, modZ⟩) (o2 := ⟨false, [.int .i64 0]⟩) Tryd.func9 rfl (Nat.le_of_ble_eq_true rfl) cb14 ?hA ?hD (by exact ⟨rfl, rfl, rfl⟩) (by exact ⟨rfl, rfl, rfl⟩) (by exact Nat.le_of_ble_eq_true rfl) rfl rfl rfl rfl rfl rfl (fun pn => ?hF)
  case hA =>
    refine AW.keepPost [0, 2, 3] [2, 3] ?_
    have nx : True := trivial
    refine' st1ebb21
    all_goals first
      | exact ⟨rfl, rfl⟩
      | trace_state
  case hD =>
    refine AW.keepPost [0, 2, 3, 12] [2, 3] ?_
    have nx : type_of% @d12 /\ True := ⟨@d12, trivial⟩
    refine' st1ebb21
    all_goals first
      | exact .inr ⟨trivial, rfl⟩
      | exact .inr ⟨rfl, rfl⟩
      | trace_state
  clear d12
  refine AW.keep [0, 2, 3] [2, 3] ?_
  try simp (disch := omega) only [NM, Nat.reduceBEq, reduceAdd, reduceMul, Int.reduceToNat, reduceSub, List.set_cons_zero, List.set_cons_succ]
  refine AW.wkO 2 rfl wkZ ?_
  try simp (disch := omega) only [NM, Nat.reduceBEq, reduceAdd, reduceMul, Int.reduceToNat, reduceSub, List.set_cons_zero, List.set_cons_succ]
  have o0 : okT b 0 b.length := ⟨hb, by omega, Nat.le_refl _, Int.le_refl _, by omega⟩
  have hxb : b.take b.length = b := List.take_length
  have nx : True := trivial
  refine' st1ebb21
  refine AW.loop [2, 3, 4, 21, 22, 23] [2, 3, 19, 20] (fun m st => ∃ (i : Nat) (p : Int), st = Th pn b p i /\ i <= 8 /\ okT b p b.length /\ decK b (headT b (hdB.drop i) p) = X /\ m = 8 - i) ?_ ?_
  · exact ⟨_, 0, 0, rfl, Nat.zero_le _, o0, hX, rfl⟩
  clear hX
  rintro m st ⟨i, p, rfl, hi, hp, hX, rfl⟩
  rcases Nat.lt_or_ge i 8 with hi8 | hi8
  · obtain ⟨c, hc⟩ : ∃ c, hdB.getD i 0 = c := ⟨_, rfl⟩
    have hdr : hdB.drop i = c :: hdB.drop (i + 1) := by
      rw [List.drop_eq_getElem_cons (show i < hdB.length from hi8), <- hc, List.getD_eq_getElem?_getD, List.getElem?_eq_getElem (show i < hdB.length from hi8)]; rfl
    have hc2 : ([0, 97, 115, 109, 1, 0, 0, 0] : List Int).getD i 0 = c := hc
    have e1 : decide ((i : Int) < 8) = true := decide_eq_true (by omega)
    have ew : IntKind.i64.wrap ((i : Int) + 1) = ((i + 1 : Nat) : Int) := wrap64_id _ (by omega) (by omega)
    rw [hdr] at hX
    unfold headT at hX
    have q0 := tbyte_ok hp
    have q0m := fun n t => byteT_mv hp (n := n) (t := t)
    unfold TF OKR ERR tpM at q0
    rw [hxb] at q0 q0m
    rcases hy : byteT b p with ⟨e, t⟩ | ⟨x, t⟩
    all_goals
      rw [hy] at hX q0 q0m
      simp only [bnd_ok, bnd_err] at hX q0
    · subst hX
      clear q0m
      have nx : type_of% @e1 /\ type_of% @hc2 /\ True := ⟨@e1, ⟨@hc2, trivial⟩⟩
      refine' st1ebb21
      refine EndD.mk (.inr ⟨_, rfl, rfl⟩) rfl rfl rfl (Nat.le_of_ble_eq_true rfl) lent2 (amd_pan _ _ _ _ _ _ _ _ _ _ _ _ _ _ _ _ _ _ _ _ _ _ _ _ _ _ _ _ _ _ _ _ _) rfl ?_
      refine EndQ.mk rfl rfl rfl (.inl rfl) ?_ ?_
      all_goals first
        | exact ⟨Nat.le_of_ble_eq_true rfl, Nat.le_of_ble_eq_true rfl, trivial⟩
        | exact ⟨rfl, rfl⟩
        | trace_state
    · obtain ⟨hp2, -, hx⟩ := q0m _ _ rfl
      clear q0m
      by_cases hxc : x = c
      · have q1 := must_t
        have f1 : (x == c) = true := beq_iff_eq.2 hxc
        rw [mustT, if_pos hxc] at hX
        have nx : type_of% @e1 /\ type_of% @hc2 /\ type_of% @f1 /\ type_of% @ew /\ True := ⟨@e1, ⟨@hc2, ⟨@f1, ⟨@ew, trivial⟩⟩⟩⟩
        refine' st1ebb21
        all_goals first
          | exact ⟨8 - (i + 1), by omega, i + 1, t, rfl, by omega, hp2, hX, rfl⟩
          | trace_state
      · have q1 := must_f
        have f1 : (x == c) = false := beq_eq_false_iff_ne.2 hxc
        rw [mustT, if_neg hxc] at hX
        subst hX
        have nx : type_of% @e1 /\ type_of% @hc2 /\ type_of% @f1 /\ True := ⟨@e1, ⟨@hc2, ⟨@f1, trivial⟩⟩⟩
        refine' st1ebb21
        refine EndD.mk (.inr ⟨_, rfl, rfl⟩) rfl rfl rfl (Nat.le_of_ble_eq_true rfl) lent2 (amd_pan _ _ _ _ _ _ _ _ _ _ _ _ _ _ _ _ _ _ _ _ _ _ _ _ _ _ _ _ _ _ _ _ _) rfl ?_
        refine EndQ.mk rfl rfl rfl (.inl rfl) ?_ ?_
        all_goals first
          | exact ⟨Nat.le_of_ble_eq_true rfl, Nat.le_of_ble_eq_true rfl, trivial⟩
          | exact ⟨rfl, rfl⟩
          | trace_state
  · obtain rfl : i = 8 := by omega
    have hX : decK b (.ok ((), p)) = X := hX
    have hX : decK2 (secsT b b.length 0 { mod0 with start := -1 } p) = X := hX
    have e1 : decide (((8 : Nat) : Int) < 8) = false := by decide
    have nx : type_of% @e1 /\ True := ⟨@e1, trivial⟩
    refine' st1ebb21
    refine AW.loop [2, 3, 4, 7] [2, 3, 19] (fun m st => ∃ (n : Nat) (last : Int) (md : Mod) (p : Int), st = Ts pn b p last md /\ okT b p b.length /\ byte last /\ decK2 (secsT b n last md p) = X /\ b.length - p <= n /\ n = m) ?_ ?_
    · exact ⟨_, b.length, 0, { mod0 with start := -1 }, p, rfl, hp, ⟨by decide, by decide⟩, hX, by have := hp.p0; omega, rfl⟩
    clear hX hp
    rintro m st ⟨n, last, md, p, rfl, hp, hla, hX, hn, rfl⟩
    obtain ⟨B, hB⟩ : ∃ B, decide (p < (b.length : Int)) = B := ⟨_, rfl⟩
    have nx : True := trivial
    refine' sta4f1b4
    refine AW.cutN [2, 3, 4, 7, 42] [2, 3, 19] (Tsb pn b p last md B) ?_ ?_
    · have nx : type_of% @hB /\ True := ⟨@hB, trivial⟩
      refine' st063580
      all_goals first
        | exact ⟨rfl, rfl⟩
        | exact ⟨trivial, rfl⟩
        | trace_state
    by_cases hpe : p < b.length
    · have d0 : decide (p < (b.length : Int)) = true := decide_eq_true hpe
      rw [d0] at hB
      subst hB
      rcases n with _ | n
      · omega
      rw [secsT, if_pos hpe] at hX
      unfold sec1 at hX
      have q0 := tbyte_ok hp
      have q0m := fun n t => byteT_mv hp (n := n) (t := t)
      unfold TF OKR ERR tpM at q0
      rw [hxb] at q0 q0m
      rcases hy : byteT b p with ⟨e, t⟩ | ⟨id, t⟩
      all_goals
        rw [hy] at hX q0 q0m
        simp only [bnd_ok, bnd_err] at hX q0
      · subst hX
        clear q0m
        have nx : type_of% @d0 /\ True := ⟨@d0, trivial⟩
        refine' st1ebb21
        refine EndD.mk (.inr ⟨_, rfl, rfl⟩) rfl rfl rfl (Nat.le_of_ble_eq_true rfl) lent2 (amd_pan _ _ _ _ _ _ _ _ _ _ _ _ _ _ _ _ _ _ _ _ _ _ _ _ _ _ _ _ _ _ _ _ _) rfl ?_
        refine EndQ.mk rfl rfl rfl (.inl rfl) ?_ ?_
        all_goals first
          | exact ⟨Nat.le_of_ble_eq_true rfl, Nat.le_of_ble_eq_true rfl, trivial⟩
          | exact ⟨rfl, rfl⟩
          | trace_state
      obtain ⟨hp2, ht1, hid⟩ := q0m _ _ rfl
      clear q0m hp
      unfold partT at hX
      have q2 := tnum_ok hp2
      have q2m := fun n t => nmT_mv hp2 (n := n) (t := t)
      unfold TF OKR ERR tpM at q2
      rw [hxb] at q2 q2m
      rcases hy2 : nmT b t with ⟨e, t2⟩ | ⟨n1, t2⟩
      all_goals
        rw [hy2] at hX q2 q2m
        simp only [bnd_ok, bnd_err] at hX q2
      · subst hX
        clear q2m
        have nx : type_of% @d0 /\ True := ⟨@d0, trivial⟩
        refine' st1ebb21
        refine EndD.mk (.inr ⟨_, rfl, rfl⟩) rfl rfl rfl (Nat.le_of_ble_eq_true rfl) lent2 (amd_pan _ _ _ _ _ _ _ _ _ _ _ _ _ _ _ _ _ _ _ _ _ _ _ _ _ _ _ _ _ _ _ _ _) rfl ?_
        refine EndQ.mk rfl rfl rfl (.inl rfl) ?_ ?_
        all_goals first
          | exact ⟨Nat.le_of_ble_eq_true rfl, Nat.le_of_ble_eq_true rfl, trivial⟩
          | exact ⟨rfl, rfl⟩
          | trace_state
      obtain ⟨hp3, ht2, hn1⟩ := q2m _ _ rfl
      clear q2m hp2
      have q3 := tpart_ok hp3 n1 hn1
      unfold tpM at q3
      unfold partN at hX
      by_cases c : n1 <= b.length - t2
      case neg =>
        rw [if_pos (by omega)] at hX
        simp only [c, not_false_eq_true, true_and, false_and] at q3
        simp only [bnd_err] at hX
        subst hX
        have nx : type_of% @d0 /\ True := ⟨@d0, trivial⟩
        refine' st1ebb21
        refine EndD.mk (.inr ⟨_, rfl, rfl⟩) rfl rfl rfl (Nat.le_of_ble_eq_true rfl) lent2 (amd_pan _ _ _ _ _ _ _ _ _ _ _ _ _ _ _ _ _ _ _ _ _ _ _ _ _ _ _ _ _ _ _ _ _) rfl ?_
        refine EndQ.mk rfl rfl rfl (.inl rfl) ?_ ?_
        all_goals first
          | exact ⟨Nat.le_of_ble_eq_true rfl, Nat.le_of_ble_eq_true rfl, trivial⟩
          | exact ⟨rfl, rfl⟩
          | trace_state
      rw [if_neg (by omega)] at hX
      simp only [c, true_and, not_true_eq_false, false_and] at q3
      have h20 := hp3.p0
      obtain ⟨en, hen⟩ : ∃ k : Nat, t2 + n1 = k := ⟨(t2 + n1).toNat, by omega⟩
      have hp4 : okT b t2 en := ⟨hp3.hb, hp3.hl, by omega, h20, by omega⟩
      have hp5 : okT b en b.length := ⟨hp3.hb, hp3.hl, Nat.le_refl _, by omega, by omega⟩
      have hle : p < (en : Int) := by omega
      rw [hen] at q3 hX
      simp only [bnd_ok] at hX
      by_cases c0 : id = 0
      · subst c0
        rw [if_pos rfl, inT_eq] at hX
        have q4 := tname_ok hp4
        unfold TF OKR ERR tpM at q4
        rcases hy4 : nameT (b.take en) t2 with ⟨e, t4⟩ | ⟨nm, t4⟩
        all_goals
          rw [hy4] at hX q4
          simp only [bnd_ok, bnd_err] at hX q4
        · subst hX
          have nx : type_of% @d0 /\ True := ⟨@d0, trivial⟩
          refine' st1ebb21
          refine EndD.mk (.inr ⟨_, rfl, rfl⟩) rfl rfl rfl (Nat.le_of_ble_eq_true rfl) lent2 (amd_pan _ _ _ _ _ _ _ _ _ _ _ _ _ _ _ _ _ _ _ _ _ _ _ _ _ _ _ _ _ _ _ _ _) rfl ?_
          refine EndQ.mk rfl rfl rfl (.inl rfl) ?_ ?_
          all_goals first
            | exact ⟨Nat.le_of_ble_eq_true rfl, Nat.le_of_ble_eq_true rfl, trivial⟩
            | exact ⟨rfl, rfl⟩
            | trace_state
        · have nx : type_of% @d0 /\ True := ⟨@d0, trivial⟩
          refine' st1ebb21
          all_goals first
            | exact ⟨n, by omega, n, last, md, en, rfl, hp5, hla, hX, by omega, rfl⟩
            | trace_state
      have f0 : (id == 0) = false := beq_eq_false_iff_ne.2 c0
      rw [if_neg c0, inT_eq] at hX
      by_cases c1 : id > last
      case neg =>
        have f1 : decide (last < id) = false := decide_eq_false c1
        have f2 : decide (id > last) = false := decide_eq_false c1
        rw [mustT, if_neg (fun h => c1 h.1)] at hX
        simp only [bnd_err] at hX
        have q1 := must_f
        subst hX
        have nx : type_of% @d0 /\ type_of% @f0 /\ type_of% @f1 /\ type_of% @f2 /\ True := ⟨@d0, ⟨@f0, ⟨@f1, ⟨@f2, trivial⟩⟩⟩⟩
        refine' st1ebb21
        refine EndD.mk (.inr ⟨_, rfl, rfl⟩) rfl rfl rfl (Nat.le_of_ble_eq_true rfl) lent2 (amd_pan _ _ _ _ _ _ _ _ _ _ _ _ _ _ _ _ _ _ _ _ _ _ _ _ _ _ _ _ _ _ _ _ _) rfl ?_
        refine EndQ.mk rfl rfl rfl (.inl rfl) ?_ ?_
        all_goals first
          | exact ⟨Nat.le_of_ble_eq_true rfl, Nat.le_of_ble_eq_true rfl, trivial⟩
          | exact ⟨rfl, rfl⟩
          | trace_state
      have f1 : decide (last < id) = true := decide_eq_true c1
      have f2 : decide (id > last) = true := decide_eq_true c1
      by_cases c2 : id <= 11
      case neg =>
        have f3 : decide (id <= 11) = false := decide_eq_false c2
        rw [mustT, if_neg (fun h => c2 h.2)] at hX
        simp only [bnd_err] at hX
        have q1 := must_f
        subst hX
        have nx : type_of% @d0 /\ type_of% @f0 /\ type_of% @f1 /\ type_of% @f2 /\ type_of% @f3 /\ True := ⟨@d0, ⟨@f0, ⟨@f1, ⟨@f2, ⟨@f3, trivial⟩⟩⟩⟩⟩
        refine' st1ebb21
        refine EndD.mk (.inr ⟨_, rfl, rfl⟩) rfl rfl rfl (Nat.le_of_ble_eq_true rfl) lent2 (amd_pan _ _ _ _ _ _ _ _ _ _ _ _ _ _ _ _ _ _ _ _ _ _ _ _ _ _ _ _ _ _ _ _ _) rfl ?_
        refine EndQ.mk rfl rfl rfl (.inl rfl) ?_ ?_
        all_goals first
          | exact ⟨Nat.le_of_ble_eq_true rfl, Nat.le_of_ble_eq_true rfl, trivial⟩
          | exact ⟨rfl, rfl⟩
          | trace_state
      have f3 : decide (id <= 11) = true := decide_eq_true c2
      rw [mustT, if_pos ⟨c1, c2⟩] at hX
      have q1 := must_t
      have hid1 : 1 <= id /\ id <= 11 := ⟨by have := hid.1; omega, c2⟩
      have q5 := tsec_ok hp4 id hid1 md
      have q5m := fun x t => secT_mv hp4 (id := id) (m := md) (x := x) (t := t)
      unfold OKS ERS tpM at q5
      rcases hy5 : secT (b.take en) id md t2 with ⟨e, t5⟩ | ⟨md2, t5⟩
      all_goals
        rw [hy5] at hX q5 q5m
        simp only [bnd_ok, bnd_err] at hX q5
      · subst hX
        clear q5m
        have nx : type_of% @d0 /\ type_of% @f0 /\ type_of% @f1 /\ type_of% @f2 /\ type_of% @f3 /\ True := ⟨@d0, ⟨@f0, ⟨@f1, ⟨@f2, ⟨@f3, trivial⟩⟩⟩⟩⟩
        refine' st1ebb21
        refine EndD.mk (.inr ⟨_, rfl, rfl⟩) rfl rfl rfl (Nat.le_of_ble_eq_true rfl) lent2 (amd_pan _ _ _ _ _ _ _ _ _ _ _ _ _ _ _ _ _ _ _ _ _ _ _ _ _ _ _ _ _ _ _ _ _) rfl ?_
        refine EndQ.mk rfl rfl rfl (.inl rfl) ?_ ?_
        all_goals first
          | exact ⟨Nat.le_of_ble_eq_true rfl, Nat.le_of_ble_eq_true rfl, trivial⟩
          | exact ⟨rfl, rfl⟩
          | trace_state
      obtain ⟨hp6, h26⟩ := q5m _ _ rfl
      clear q5m
      have q6 := tdone_ok hp6
      have hlen4 := hp4.len
      unfold TF OKR ERR tpM at q6
      rw [done_mv, hlen4] at hX q6
      by_cases c5 : t5 = en
      · rw [if_pos c5] at hX q6
        simp only [bnd_ok] at hX q6
        have nx : type_of% @d0 /\ type_of% @f0 /\ type_of% @f1 /\ type_of% @f2 /\ type_of% @f3 /\ True := ⟨@d0, ⟨@f0, ⟨@f1, ⟨@f2, ⟨@f3, trivial⟩⟩⟩⟩⟩
        refine' st1ebb21
        all_goals first
          | exact ⟨n, by omega, n, id, md2, en, rfl, hp5, hid, hX, by omega, rfl⟩
          | trace_state
      · rw [if_neg c5] at hX q6
        simp only [bnd_err] at hX q6
        subst hX
        have nx : type_of% @d0 /\ type_of% @f0 /\ type_of% @f1 /\ type_of% @f2 /\ type_of% @f3 /\ True := ⟨@d0, ⟨@f0, ⟨@f1, ⟨@f2, ⟨@f3, trivial⟩⟩⟩⟩⟩
        refine' st1ebb21
        refine EndD.mk (.inr ⟨_, rfl, rfl⟩) rfl rfl rfl (Nat.le_of_ble_eq_true rfl) lent2 (amd_pan _ _ _ _ _ _ _ _ _ _ _ _ _ _ _ _ _ _ _ _ _ _ _ _ _ _ _ _ _ _ _ _ _) rfl ?_
        refine EndQ.mk rfl rfl rfl (.inl rfl) ?_ ?_
        all_goals first
          | exact ⟨Nat.le_of_ble_eq_true rfl, Nat.le_of_ble_eq_true rfl, trivial⟩
          | exact ⟨rfl, rfl⟩
          | trace_state
    · have d0 : decide (p < (b.length : Int)) = false := decide_eq_false hpe
      rw [d0] at hB
      subst hB
      have hX : decK2 (.ok (md, p)) = X := by
        rw [<- hX]
        cases n with
        | zero => rfl
        | succ n => rw [secsT, if_neg hpe]
      have hX : mustT (md.codes.length = md.funcs.length) (fun t => .ok (md, t)) p = X := hX
      by_cases cc : md.codes.length = md.funcs.length
      · have q1 := must_t
        have f1 : ((md.codes.length : Int) == (md.funcs.length : Int)) = true := beq_iff_eq.2 (by omega)
        rw [mustT, if_pos cc] at hX
        subst hX
        have nx : type_of% @d0 /\ type_of% @f1 /\ True := ⟨@d0, ⟨@f1, trivial⟩⟩
        refine' st1ebb21
        refine EndD.mk (.inl ⟨rfl, rfl⟩) rfl rfl rfl (Nat.le_of_ble_eq_true rfl) lent2 (amd_ret _ _ _ _ _ _ _ _ _ _ _ _ _ _ _ _ _ _ _ _ _ _ _ _ _ _ _ _ _ _ _ _) rfl ?_
        refine EndQ.mk rfl rfl rfl (.inl rfl) ?_ ?_
        all_goals first
          | exact ⟨Nat.le_of_ble_eq_true rfl, Nat.le_of_ble_eq_true rfl, trivial⟩
          | exact ⟨rfl, rfl⟩
          | trace_state
      · have q1 := must_f
        have f1 : ((md.codes.length : Int) == (md.funcs.length : Int)) = false := beq_eq_false_iff_ne.2 (by omega)
        rw [mustT, if_neg cc] at hX
        subst hX
        have nx : type_of% @d0 /\ type_of% @f1 /\ True := ⟨@d0, ⟨@f1, trivial⟩⟩
        refine' st1ebb21
        refine EndD.mk (.inr ⟨_, rfl, rfl⟩) rfl rfl rfl (Nat.le_of_ble_eq_true rfl) lent2 (amd_pan _ _ _ _ _ _ _ _ _ _ _ _ _ _ _ _ _ _ _ _ _ _ _ _ _ _ _ _ _ _ _ _ _) rfl ?_
        refine EndQ.mk rfl rfl rfl (.inl rfl) ?_ ?_
        all_goals first
          | exact ⟨Nat.le_of_ble_eq_true rfl, Nat.le_of_ble_eq_true rfl, trivial⟩
          | exact ⟨rfl, rfl⟩
          | trace_state
end Go.Proofs.YtmomeejfopfchaaDoor
namespace Go.Proofs.YtmomeejfopfchaaDoor
set_option maxRecDepth 20000
open Go Go.Abs Nat
attribute [local irreducible] AW AWL AC FW CW CWr IntKind.wrap
def ins00 : Ins := ⟨0, 0, 0, 0, 0, []⟩
theorem codeC_drop (l : List Ins) (k : Nat) : List.drop (k * 6) (codeC l) = codeC (l.drop k) := by
  induction l generalizing k with
  | nil => simp [codeC]
  | cons i l ih =>
    cases k with
    | zero => rfl
    | succ k =>
      have : codeC (i :: l) = insC i ++ codeC l := rfl
      rw [this, List.drop_succ_cons, <- ih k, show (k + 1) * 6 = (insC i).length + k * 6 by show _ = 6 + _; omega, List.drop_append, List.drop_of_length_le (by omega), List.nil_append, Nat.add_sub_cancel_left]
theorem codeC_at (l : List Ins) {k : Nat} (h : k < l.length) : List.drop (k * 6) (codeC l) = insC (l.getD k ins00) ++ codeC (l.drop (k + 1)) := by
  rw [codeC_drop]
  have e : l.drop k = l.getD k ins00 :: l.drop (k + 1) := by
    rw [List.drop_eq_getElem_cons h, List.getD_eq_getElem?_getD, List.getElem?_eq_getElem h]; rfl
  rw [e]; rfl
theorem codeC_load (l : List Ins) {k : Nat} (h : k < l.length) : List.take 6 (List.drop (k * 6) (codeC l)) = insC (l.getD k ins00) := by rw [codeC_at l h]; rfl
theorem codeC_room (l : List Ins) {k : Nat} (h : k < l.length) : 6 <= (List.drop (k * 6) (codeC l)).length := by rw [codeC_at l h, List.length_append]; show 6 <= 6 + _; omega
def T5s (i1 i2 : Ins) (k : Nat) : St := { n := 66, slots := [(2, .ptr 2 0), (3, .ptr 3 0), (5, .int .i64 (k : Int))], mem := [(2, ⟨false, [.int .i64 i1.op, .int .i64 i1.a, .int .i64 i1.b, .int .u64 i1.lo, .int .u64 i1.hi, .view i1.l.length 1 (nums .i64 i1.l)]⟩), (3, ⟨false, [.int .i64 i2.op, .int .i64 i2.a, .int .i64 i2.b, .int .u64 i2.lo, .int .u64 i2.hi, .view i2.l.length 1 (nums .i64 i2.l)]⟩)] }
def T5c (a b : List Ins) (k : Nat) : St := { n := 27, slots := [(0, .view a.length 6 (codeC a)), (1, .view b.length 6 (codeC b)), (5, .int .i64 (k : Int))], mem := [] }
theorem take_next {α : Type} {a b : List α} (d : α) {k : Nat} (ha : k < a.length) (hb : k < b.length) (h : a.take k = b.take k) (he : a.getD k d = b.getD k d) : a.take (k + 1) = b.take (k + 1) := by
  rw [List.take_add_one, List.take_add_one, h, List.getElem?_eq_getElem ha, List.getElem?_eq_getElem hb]
  rw [List.getD_eq_getElem?_getD, List.getD_eq_getElem?_getD, List.getElem?_eq_getElem ha, List.getElem?_eq_getElem hb] at he
  simp only [Option.getD_some] at he
  rw [he]
theorem MXSame.NM : type_of% @NSX /\ type_of% @St.keepS.eq_1 /\ type_of% @TY /\ type_of% @SLS /\ type_of% @nums_length /\ type_of% @T5s.eq_1 /\ type_of% @T5c.eq_1 :=
  ⟨NSX, St.keepS.eq_1, @TY, @SLS, @nums_length, @T5s.eq_1, @T5c.eq_1⟩
open MXSame
theorem K1XSame.kp {P : Program} {c : Code} {Q : Exit -> St -> Prop} {st : St} (h : AW P c Q (st.keepS [0, 1, 2, 3, 4, 5])) : AW P c Q st := AW.keepS _ h
theorem K1XSame.cl {p : Prop} (h : p := by
  first
    | refine AWL.frzG rfl rfl rfl ?_
  all_goals (apply_rules (newGoals := .nonDependentOnly) only [dep])
  all_goals constructor) : p := h
theorem K1XSame.sd {p : Prop} (h : p := by first | exact sd8f4301) : p := h
theorem K2XSame.kp {P : Program} {c : Code} {Q : Exit -> St -> Prop} {st : St} (h : AW P c Q (st.keepS [0, 1, 4, 5])) : AW P c Q st := AW.keepS _ h
theorem K2XSame.cl {p : Prop} (h : p := by
  first
    | refine AWL.frzG rfl rfl rfl ?_
    | refine AWL.cC (f := 50) cb50 rfl rfl rfl rfl rfl rfl (hsi) ?_
  all_goals (apply_rules (newGoals := .nonDependentOnly) only [dep])
  all_goals constructor) : p := h
theorem K2XSame.sd {p : Prop} (h : p := by first | exact sd8f4301) : p := h
open K1XSame in
set_option maxHeartbeats 6400000 in
theorem samei_ok (i1 i2 : Ins) (h1 : i1.l.length <= 1000000000000) (h2 : i2.l.length <= 1000000000000) : AC Tryd.prog 50 [.fagg (insC i1), .fagg (insC i2)] (fun v m => v = .bool (decide (i1 = i2)) /\ m = []) := by
  unfold insC
  refine AC.enter Tryd.func50 rfl (Nat.le_of_ble_eq_true rfl) ?_
  simp only [Tryd.f50]
  by_cases hh : i1.op = i2.op /\ i1.a = i2.a /\ i1.b = i2.b /\ i1.lo = i2.lo /\ i1.hi = i2.hi /\ i1.l.length = i2.l.length
  · obtain ⟨e1, e2, e3, e4, e5, e6⟩ := hh
    have nx : True := trivial
    refine' sta3e55a
    refine AW.loop [2, 3, 5] [2, 3] (fun m st => ∃ k : Nat, st = T5s i1 i2 k /\ k <= i1.l.length /\ i1.l.take k = i2.l.take k /\ m = i1.l.length - k) ?_ ?_
    · exact ⟨_, 0, rfl, Nat.zero_le _, rfl, rfl⟩
    rintro m st ⟨k, rfl, hk, ht, rfl⟩
    by_cases hkl : k < i1.l.length
    · have e7 : IntKind.i64.wrap ((k : Int) + 1) = ((k + 1 : Nat) : Int) := wrap64_id _ (by omega) (by omega)
      have hd1 : decide ((k : Int) < (i1.l.length : Int)) = true := decide_eq_true (by omega)
      by_cases he : i1.l.getD k 0 = i2.l.getD k 0
      · have htn := take_next (0 : Int) hkl (by omega) ht he
        have nx : type_of% @e7 /\ type_of% @hd1 /\ True := ⟨@e7, ⟨@hd1, trivial⟩⟩
        refine' sta3e55a
        all_goals first
          | exact ⟨i1.l.length - (k + 1), by omega, k + 1, rfl, by omega, htn, rfl⟩
          | trace_state
      · have hne : decide (i1 = i2) = false := decide_eq_false (fun h => he (by rw [h]))
        have nx : type_of% @e7 /\ type_of% @hd1 /\ True := ⟨@e7, ⟨@hd1, trivial⟩⟩
        refine' sta3e55a
        all_goals first | exact ⟨trivial, trivial⟩ | exact ⟨rfl, trivial⟩ | exact ⟨rfl, rfl⟩ | exact ⟨trivial, rfl⟩ | (rw [hne]; exact ⟨rfl, trivial⟩) | (exfalso; omega) | trace_state
    · have hk2 : k = i1.l.length := by omega
      have hd1 : decide ((k : Int) < (i1.l.length : Int)) = false := decide_eq_false (by omega)
      rw [hk2, List.take_length, e6, List.take_length] at ht
      have hye : decide (i1 = i2) = true := decide_eq_true (by cases i1; cases i2; simp only at *; subst e1 e2 e3 e4 e5 ht; rfl)
      have nx : type_of% @hd1 /\ True := ⟨@hd1, trivial⟩
      refine' sta3e55a
      all_goals first | exact ⟨trivial, trivial⟩ | exact ⟨rfl, trivial⟩ | exact ⟨rfl, rfl⟩ | exact ⟨trivial, rfl⟩ | (rw [hye]; exact ⟨rfl, trivial⟩) | (exfalso; omega) | trace_state
  · have hne : decide (i1 = i2) = false := decide_eq_false (fun h => hh (by rw [h]; exact ⟨rfl, rfl, rfl, rfl, rfl, rfl⟩))
    have nx : True := trivial
    refine' sta3e55a
    all_goals first | exact ⟨trivial, trivial⟩ | exact ⟨rfl, trivial⟩ | exact ⟨rfl, rfl⟩ | exact ⟨trivial, rfl⟩ | (rw [hne]; exact ⟨rfl, trivial⟩) | (exfalso; omega) | trace_state
open K2XSame in
set_option maxHeartbeats 6400000 in
theorem same_ok (a b : List Ins) (ha : a.length <= 1000000000000) (hb : b.length <= 1000000000000) (hla : ∀ i ∈ a, i.l.length <= 1000000000000) (hlb : ∀ i ∈ b, i.l.length <= 1000000000000) : AC Tryd.prog 25 [.view a.length 6 (codeC a), .view b.length 6 (codeC b)] (fun v m => v = .bool (decide (a = b)) /\ m = []) := by
  have hsi : True := trivial
  refine AC.enter Tryd.func25 rfl (Nat.le_of_ble_eq_true rfl) ?_
  simp only [Tryd.f25]
  by_cases hl : a.length = b.length
  · have nx : True := trivial
    refine' stcee019
    refine AW.loop [0, 1, 5] [] (fun m st => ∃ k : Nat, st = T5c a b k /\ k <= a.length /\ a.take k = b.take k /\ m = a.length - k) ?_ ?_
    · exact ⟨_, 0, rfl, Nat.zero_le _, rfl, rfl⟩
    rintro m st ⟨k, rfl, hk, ht, rfl⟩
    by_cases hkl : k < a.length
    · have e7 : IntKind.i64.wrap ((k : Int) + 1) = ((k + 1 : Nat) : Int) := wrap64_id _ (by omega) (by omega)
      have hd1 : decide ((k : Int) < (a.length : Int)) = true := decide_eq_true (by omega)
      have l1 := codeC_load a hkl
      have l2 := codeC_load b (k := k) (by omega)
      have r1 := codeC_room a hkl
      have r2 := codeC_room b (k := k) (by omega)
      have m1 := hla (a.getD k ins00) (by rw [List.getD_eq_getElem?_getD, List.getElem?_eq_getElem hkl]; exact List.getElem_mem _)
      have m2 := hlb (b.getD k ins00) (by rw [List.getD_eq_getElem?_getD, List.getElem?_eq_getElem (show k < b.length by omega)]; exact List.getElem_mem _)
      have hsi := samei_ok _ _ m1 m2
      by_cases he : a.getD k ins00 = b.getD k ins00
      · have htn := take_next ins00 hkl (by omega) ht he
        rw [decide_eq_true he] at hsi
        have nx : type_of% @e7 /\ type_of% @hd1 /\ type_of% @l1 /\ type_of% @l2 /\ True := ⟨@e7, ⟨@hd1, ⟨@l1, ⟨@l2, trivial⟩⟩⟩⟩
        refine' stcee019
        all_goals first
          | exact ⟨a.length - (k + 1), by omega, k + 1, rfl, by omega, htn, rfl⟩
          | trace_state
      · have hne : decide (a = b) = false := decide_eq_false (fun h => he (by rw [h]))
        rw [decide_eq_false he] at hsi
        have nx : type_of% @e7 /\ type_of% @hd1 /\ type_of% @l1 /\ type_of% @l2 /\ True := ⟨@e7, ⟨@hd1, ⟨@l1, ⟨@l2, trivial⟩⟩⟩⟩
        refine' stcee019
        all_goals first | exact ⟨trivial, trivial⟩ | exact ⟨rfl, trivial⟩ | exact ⟨rfl, rfl⟩ | exact ⟨trivial, rfl⟩ | (rw [hne]; exact ⟨rfl, trivial⟩) | (exfalso; omega) | trace_state
    · have hk2 : k = a.length := by omega
      have hd1 : decide ((k : Int) < (a.length : Int)) = false := decide_eq_false (by omega)
      rw [hk2, List.take_length, hl, List.take_length] at ht
      have hye : decide (a = b) = true := decide_eq_true ht
      have nx : type_of% @hd1 /\ True := ⟨@hd1, trivial⟩
      refine' stcee019
      all_goals first | exact ⟨trivial, trivial⟩ | exact ⟨rfl, trivial⟩ | exact ⟨rfl, rfl⟩ | exact ⟨trivial, rfl⟩ | (rw [hye]; exact ⟨rfl, trivial⟩) | (exfalso; omega) | trace_state
  · have hne : decide (a = b) = false := decide_eq_false (fun h => hl (by rw [h]))
    have nx : True := trivial
    refine' stcee019
    all_goals first | exact ⟨trivial, trivial⟩ | exact ⟨rfl, trivial⟩ | exact ⟨rfl, rfl⟩ | exact ⟨trivial, rfl⟩ | (rw [hne]; exact ⟨rfl, trivial⟩) | (exfalso; omega) | trace_state
end Go.Proofs.YtmomeejfopfchaaDoor
namespace Go.Proofs.YtmomeejfopfchaaDoor
set_option maxRecDepth 20000
open Go Go.Abs
open Go.Lib in
theorem u8tabs {w : World} (h3 : VarReads Tryd.prog w "unicode/utf8.first" firstData) (h4 : VarReads Tryd.prog w "unicode/utf8.acceptRanges" acceptData) : Lib.Utf8Tabs 0 1 w := by
  have n3 : Tryd.prog.globalNamed "unicode/utf8.first" = some 0 := by kernel_rfl
  have n4 : Tryd.prog.globalNamed "unicode/utf8.acceptRanges" = some 1 := by kernel_rfl
  have y3 : (Tryd.prog.globals[0]?).map (·.type) = some 106 := by kernel_rfl
  have y4 : (Tryd.prog.globals[1]?).map (·.type) = some 109 := by kernel_rfl
  have c5 : Tryd.prog.cellsOf 5 = 1 := by kernel_rfl
  have c1 : Tryd.prog.cellsOf 106 = 256 := by kernel_rfl
  have c2 : Tryd.prog.cellsOf 108 = 2 := by kernel_rfl
  refine ⟨fun c hc => ?_, fun i hi => ?_⟩
  · obtain ⟨g, t, cs, fuel, p, hg, hty, hvar, hd⟩ := h3
    obtain rfl := Option.some.inj (n3.symm.trans hg)
    obtain rfl := Option.some.inj (y3.symm.trans hty)
    have hcs := cells_of_tab Tryd.underlying106 Tryd.underlying5 c5 c1 hd
    have := World.var?_cell hg hvar c
    rw [this, <- Array.getElem?_toList, hcs]
    simp [firstTab, hc]
  · obtain ⟨g, t, cs, fuel, p, hg, hty, hvar, hd⟩ := h4
    obtain rfl := Option.some.inj (n4.symm.trans hg)
    obtain rfl := Option.some.inj (y4.symm.trans hty)
    obtain ⟨fuel', d, q, hdi, he⟩ := array_elem Tryd.underlying109 hd i hi
    simp only [List.getElem?_map, List.getElem?_range hi, Option.map_some, Option.some.injEq] at hdi
    subst hdi
    rw [c2] at he
    have hcs := ints_of_struct Tryd.underlying108 (fun j f hj => by
      match j, hj with
      | 0, hj => simp at hj; subst hj; exact ⟨Tryd.underlying5, rfl, c5⟩
      | 1, hj => simp at hj; subst hj; exact ⟨Tryd.underlying5, rfl, c5⟩
      | j + 2, hj => simp at hj) (by rw [c2]; rfl) he
    have e0 := congrArg (·[0]?) hcs
    have e1 := congrArg (·[1]?) hcs
    simp only [List.getElem?_take, List.getElem?_drop] at e0 e1
    constructor
    · rw [World.var?_cell hg hvar (2 * i), <- Array.getElem?_toList]
      simpa [Nat.mul_comm] using e0
    · rw [World.var?_cell hg hvar (2 * i + 1), <- Array.getElem?_toList]
      simpa [Nat.mul_comm] using e1
theorem first_data : Rows.laid_unicode_utf8_first = Lib.firstData := by kernel_rfl
theorem accept_data : (Rows.laid_unicode_utf8_acceptRanges : DataW Unit) = Lib.acceptData := by kernel_rfl
theorem firstI_at : ∀ j : Fin 256, firstI[j.val]? = some ((Lib.firstT j.val : Nat) : Int) := by decide +kernel
theorem acceptI_at : ∀ j : Fin 16, acceptI[2 * j.val]? = some ((Lib.accLo j.val : Nat) : Int) /\ acceptI[2 * j.val + 1]? = some ((Lib.accHi j.val : Nat) : Int) := by decide +kernel
theorem cell_lt {W : World} {b o : Nat} {v : Value} (h : W.cell? ⟨b, o, none⟩ = some v) : b < W.heap.size := by
  apply Classical.byContradiction
  intro hn
  simp [World.cell?, Array.getElem?_eq_none (Nat.le_of_not_lt hn)] at h
theorem gt_of {laid : List (String × DataW Unit)} {W : World} (hL : laidMet Tryd.prog laid W) (h3 : ("unicode/utf8.first", Rows.laid_unicode_utf8_first) ∈ laid) (h4 : ("unicode/utf8.acceptRanges", Rows.laid_unicode_utf8_acceptRanges) ∈ laid) : GT (fun b => b < W.heap.size) W := by
  rw [first_data] at h3
  rw [accept_data] at h4
  obtain ⟨t1, t2⟩ := u8tabs (Lib.laidMet.reads hL h3) (Lib.laidMet.reads hL h4)
  intro g cs hg
  unfold gtab at hg
  simp only [lk] at hg
  by_cases h0 : g = 0
  · subst h0
    have hg : some firstI = some cs := hg
    cases hg
    refine ⟨cell_lt (t1 0 (by decide)), fun j v hj => ?_⟩
    have hlt : j < 256 := by
      have := (List.getElem?_eq_some_iff.1 hj).1
      exact this
    have e := firstI_at ⟨j, hlt⟩
    simp only at e
    rw [hj] at e
    cases e
    exact t1 j hlt
  · by_cases h1 : g = 1
    · subst h1
      have hg : some acceptI = some cs := hg
      cases hg
      refine ⟨cell_lt (t2 0 (by decide)).1, fun j v hj => ?_⟩
      have hlt : j < 32 := (List.getElem?_eq_some_iff.1 hj).1
      obtain ⟨e1, e2⟩ := acceptI_at ⟨j / 2, by omega⟩
      obtain ⟨q1, q2⟩ := t2 (j / 2) (by omega)
      simp only at e1 e2
      by_cases hp : j % 2 = 0
      · rw [show 2 * (j / 2) = j by omega] at e1 q1
        rw [hj] at e1
        cases e1
        exact q1
      · rw [show 2 * (j / 2) + 1 = j by omega] at e2 q2
        rw [hj] at e2
        cases e2
        exact q2
    · rw [show (0 == g) = false by simpa using fun h => h0 h.symm, show (1 == g) = false by simpa using fun h => h1 h.symm] at hg
      simp at hg
end Go.Proofs.YtmomeejfopfchaaDoor
namespace Go.Proofs.YtmomeejfopfchaaDoor
set_option maxRecDepth 20000
open Go Go.Abs
theorem uRd_pos (bits : Int) : ∀ (xs : List Int) (d : Nat) (v at_ : Int), (uRd bits xs d v at_).2.2 = 0 -> at_ < (uRd bits xs d v at_).2.1 /\ (uRd bits xs d v at_).2.1 <= at_ + xs.length
  | [], _, _, _, h => by simp [uRd] at h
  | x :: t, d, v, at_, h => by
    rw [uRd] at h ⊢
    split at h
    · simp at h
    · rename_i c
      rw [if_neg c]
      split at h
      · rename_i c2
        rw [if_pos c2]
        simp only [List.length_cons]; omega
      · rename_i c2
        rw [if_neg c2]
        have := uRd_pos bits t _ _ _ h
        simp only [List.length_cons]; omega
theorem uRd_agree (bits : Int) : ∀ (l l' : List Int) (d : Nat) (v at_ : Int) (j : Nat), (uRd bits l d v at_).2.2 = 0 -> (uRd bits l d v at_).2.1 <= at_ + j -> l'.take j = l.take j -> uRd bits l' d v at_ = uRd bits l d v at_
  | [], _, _, _, _, _, h, _, _ => by simp [uRd] at h
  | x :: t, l', d, v, at_, j, h, hj, ht => by
    have hp := uRd_pos bits _ _ _ _ h
    rcases j with _ | j
    · omega
    rcases l' with _ | ⟨y, t'⟩
    · simp at ht
    rw [List.take_succ_cons, List.take_succ_cons, List.cons.injEq] at ht
    obtain ⟨rfl, ht⟩ := ht
    rw [uRd] at h hj ⊢
    conv => rhs; rw [uRd]
    by_cases c : (bits - d < 7 /\ (y % 128) / 2 ^ (bits - d).toNat ≠ 0) \/ (bits - d <= 7 /\ y >= 128)
    · rw [if_pos c] at h; simp at h
    rw [if_neg c] at h hj ⊢
    rw [if_neg c]
    by_cases c2 : y < 128
    · rw [if_pos c2, if_pos c2]
    · rw [if_neg c2] at h hj ⊢
      rw [if_neg c2]
      exact uRd_agree bits t t' _ _ _ j h (by omega) ht
theorem uRd_shift (bits k : Int) : ∀ (l : List Int) (d : Nat) (v at_ : Int), uRd bits l d v (at_ + k) = if (uRd bits l d v at_).2.2 = 0 then ((uRd bits l d v at_).1, (uRd bits l d v at_).2.1 + k, 0) else uRd bits l d v at_
  | [], _, _, _ => by simp [uRd]
  | x :: t, d, v, at_ => by
    rw [uRd, uRd]
    by_cases c : (bits - d < 7 /\ (x % 128) / 2 ^ (bits - d).toNat ≠ 0) \/ (bits - d <= 7 /\ x >= 128)
    · rw [if_pos c, if_pos c]; simp
    rw [if_neg c, if_neg c]
    by_cases c2 : x < 128
    · rw [if_pos c2, if_pos c2, if_pos rfl]
      simp only [Prod.mk.injEq, true_and, and_true]; omega
    · rw [if_neg c2, if_neg c2, show at_ + k + 1 = at_ + 1 + k by omega]
      exact uRd_shift bits k t _ _ _
theorem uSpec_in {xs : List Int} {p : Int} (h : 0 <= p /\ p <= xs.length) : uSpec xs p 32 = uRd 32 (xs.drop p.toNat) 0 0 p := by
  unfold uSpec; rw [if_neg (by omega)]
theorem nm_agree {b c : List Int} {p p' n q : Int} (hp : 0 <= p /\ p <= b.length) (hp' : 0 <= p' /\ p' <= c.length) (h : nmT b p = .ok (n, q)) {j : Nat} (hj : q <= p + j) (ht : (c.drop p'.toNat).take j = (b.drop p.toNat).take j) : nmT c p' = .ok (n, q + (p' - p)) := by
  unfold nmT at h ⊢
  by_cases e : (uSpec b p 32).2.2 ≠ 0
  · rw [if_pos e] at h; cases h
  rw [if_neg e] at h
  have e := Classical.not_not.1 e
  cases h
  rw [uSpec_in hp] at e hj
  rw [uSpec_in hp', uSpec_in hp]
  have h1 := uRd_agree 32 _ _ _ _ _ j e hj ht
  have h2 := uRd_shift 32 (p' - p) (c.drop p'.toNat) 0 0 p
  rw [show p + (p' - p) = p' by omega, h1, if_pos e] at h2
  rw [h2, if_neg (fun h => h rfl)]
theorem nm_bnd {b : List Int} {p n q : Int} (hp : 0 <= p /\ p <= b.length) (h : nmT b p = .ok (n, q)) : p < q /\ q <= b.length := by
  unfold nmT at h
  by_cases e : (uSpec b p 32).2.2 ≠ 0
  · rw [if_pos e] at h; cases h
  rw [if_neg e] at h
  have e := Classical.not_not.1 e
  cases h
  rw [uSpec_in hp] at e ⊢
  have := uRd_pos 32 _ _ _ _ e
  rw [List.length_drop] at this
  omega
theorem nm_err {b : List Int} {p e q : Int} (h : nmT b p = .error (e, q)) : e = 10 := by
  unfold nmT at h
  split at h <;> cases h
  rfl
theorem nm_nat {b : List Int} (hb : bytes b) {p n q : Int} (hp : 0 <= p /\ p <= b.length) (h : nmT b p = .ok (n, q)) : 0 <= n := by
  unfold nmT at h
  split at h
  · cases h
  · rename_i c
    have := uSpec_ok hb hp (Classical.not_not.1 c)
    cases h; exact this.1.1
theorem nm_cut {b : List Int} {k : Nat} (hk : k <= b.length) {p n q : Int} (hp : 0 <= p /\ p <= k) (h : nmT b p = .ok (n, q)) : (q <= k /\ nmT (b.take k) p = .ok (n, q)) \/ (k < q /\ nmT (b.take k) p = .error (10, p)) := by
  have hl : (b.take k).length = k := by rw [List.length_take]; omega
  by_cases hq : q <= k
  · left
    refine ⟨hq, ?_⟩
    have := nm_agree (c := b.take k) (p' := p) (by omega) (by rw [hl]; exact hp) h (j := k - p.toNat) (by omega) (by rw [List.drop_take, List.take_take, Nat.min_self])
    rwa [show q + (p - p) = q by omega] at this
  · right
    refine ⟨by omega, ?_⟩
    rcases hx : nmT (b.take k) p with ⟨e, t⟩ | ⟨n', t⟩
    · have := nm_err hx
      unfold nmT at hx
      split at hx <;> cases hx
      rfl
    · have h1 := nm_bnd (by rw [hl]; exact hp) hx
      rw [hl] at h1
      have := nm_agree (c := b) (p' := p) (by rw [hl]; exact hp) (by omega) hx (j := k - p.toNat) (by omega) (by rw [List.drop_take, List.take_take, Nat.min_self])
      rw [h] at this
      cases this
      omega
structure Sec (b : List Int) (p : Int) (id n s t : Int) : Prop where
  lt : p < b.length
  id : b.getD p.toNat 0 = id
  nm : nmT b (p + 1) = .ok (n, s)
  tt : t = s + n
  tl : t <= b.length
theorem sec1_inv {b : List Int} {last : Int} {m : Mod} {p : Int} {x : Int × Mod} {t : Int} (h : sec1 b last m p = .ok (x, t)) : ∃ id n s, Sec b p id n s t /\ (if id = 0 then x = (last, m) else x.1 = id /\ id > last /\ id <= 11) /\
    sec1 b last m p = (if id = 0 then inT b (fun ys p => bnd (nameT ys p) fun _ t => .ok ((last, m), t)) s t else inT b (fun ys p => mustT (id > last /\ id <= 11) (fun p => bnd (secT ys id m p) fun m t => doneT ys (id, m) t) p) s t) := by
  have h0 := h
  unfold sec1 byteT at h
  by_cases c : p >= b.length
  · rw [if_pos c, bnd_err] at h; cases h
  rw [if_neg c, bnd_ok] at h
  unfold partT at h
  rcases hn : nmT b (p + 1) with e | ⟨n, s⟩
  · rw [hn, bnd_err, bnd_err] at h; cases h
  rw [hn, bnd_ok] at h
  unfold partN at h
  by_cases c2 : n > (b.length : Int) - s
  · rw [if_pos c2, bnd_err] at h; cases h
  rw [if_neg c2, bnd_ok] at h
  have ht : t = s + n := by
    split at h
    all_goals
      unfold inT at h
      split at h <;> cases h
      rfl
  refine ⟨b.getD p.toNat 0, n, s, ⟨by omega, rfl, hn, ht, by omega⟩, ?_, ?_⟩
  · by_cases c3 : b.getD p.toNat 0 = 0
    · rw [if_pos c3] at h ⊢
      unfold inT at h
      simp only at h
      rcases hy : nameT (b.take (s + n).toNat) s with e | ⟨a, q⟩
      · rw [hy] at h; simp only [bnd_err] at h; cases h
      · rw [hy] at h; simp only [bnd_ok] at h; cases h; rfl
    · rw [if_neg c3] at h ⊢
      unfold inT mustT at h
      simp only at h
      by_cases c4 : b.getD p.toNat 0 > last /\ b.getD p.toNat 0 <= 11
      · rw [if_pos c4] at h
        rcases hy : secT (b.take (s + n).toNat) (b.getD p.toNat 0) m s with e | ⟨a, q⟩
        · rw [hy] at h; simp only [bnd_err] at h; cases h
        · rw [hy] at h; simp only [bnd_ok] at h
          unfold doneT mustT at h
          by_cases c5 : q = ((b.take (s + n).toNat).length : Int)
          · rw [if_pos c5] at h; cases h; exact ⟨rfl, c4⟩
          · rw [if_neg c5] at h; cases h
      · rw [if_neg c4] at h; cases h
  · unfold sec1 byteT
    rw [if_neg c, bnd_ok]
    unfold partT partN
    rw [hn, bnd_ok, if_neg c2, bnd_ok, ht]
theorem sec1_agree {b c : List Int} {last : Int} {m : Mod} {p : Int} {x : Int × Mod} {t : Int} {k : Nat} (hp : 0 <= p) (h : sec1 b last m p = .ok (x, t)) (hk : t <= k) (hkb : k <= b.length) (hc : c.take k = b.take k) (hkc : k <= c.length) (hn0 : bytes b) : sec1 c last m p = .ok (x, t) := by
  obtain ⟨id, n, s, hs, hx, he⟩ := sec1_inv h
  have hnb := nm_bnd (by have := hs.lt; omega) hs.nm
  have hnn := nm_nat hn0 (by have := hs.lt; omega) hs.nm
  have htt := hs.tt
  have hg : c.getD p.toNat 0 = id := by
    rw [<- hs.id]
    have e1 : (c.take k).getD p.toNat 0 = (b.take k).getD p.toNat 0 := by rw [hc]
    simp only [List.getD_eq_getElem?_getD] at e1 ⊢
    rwa [List.getElem?_take_of_lt (by omega), List.getElem?_take_of_lt (by omega)] at e1
  have hd : (c.drop (p + 1).toNat).take (k - (p + 1).toNat) = (b.drop (p + 1).toNat).take (k - (p + 1).toNat) := by
    rw [<- List.drop_take, <- List.drop_take, hc]
  have hnm := nm_agree (c := c) (p' := p + 1) (by have := hs.lt; omega) (by omega) hs.nm (j := k - (p + 1).toNat) (by omega) hd
  rw [show s + (p + 1 - (p + 1)) = s by omega] at hnm
  rw [he] at h
  have htk : c.take t.toNat = b.take t.toNat := by
    have e1 : (c.take k).take t.toNat = (b.take k).take t.toNat := by rw [hc]
    rwa [List.take_take, List.take_take, Nat.min_eq_left (by omega)] at e1
  unfold sec1 byteT
  rw [if_neg (by omega), bnd_ok, hg]
  unfold partT partN
  rw [hnm, bnd_ok, if_neg (by omega), bnd_ok, <- htt]
  unfold inT at h ⊢
  rw [htk]
  exact h
inductive Run (b : List Int) : Int -> Mod -> Int -> List Int -> Int -> Mod -> Int -> Prop
  | nil (last : Int) (m : Mod) (p : Int) : Run b last m p [p] last m p
  | cons {last : Int} {m : Mod} {p l1 : Int} {m1 : Mod} {t : Int} {ps : List Int} {l2 : Int} {m2 : Mod} {q : Int} (h : sec1 b last m p = .ok ((l1, m1), t)) (hr : Run b l1 m1 t ps l2 m2 q) : Run b last m p (p :: ps) l2 m2 q
theorem sec1_lt {b : List Int} (hb : bytes b) {last : Int} {m : Mod} {p : Int} {x : Int × Mod} {t : Int} (hp : 0 <= p) (h : sec1 b last m p = .ok (x, t)) : p + 2 <= t /\ t <= b.length := by
  obtain ⟨id, n, s, hs, _, _⟩ := sec1_inv h
  have h1 := hs.lt
  have h2 := nm_bnd (by omega) hs.nm
  have h3 := nm_nat hb (by omega) hs.nm
  have h4 := hs.tt
  exact ⟨by omega, hs.tl⟩
theorem secs_run {b : List Int} (hb : bytes b) : ∀ (n : Nat) {last : Int} {m : Mod} {p : Int} {m2 : Mod} {q : Int}, 0 <= p -> p <= b.length -> (b.length : Int) - p <= n -> secsT b n last m p = .ok (m2, q) -> ∃ ps l2, Run b last m p ps l2 m2 q /\ ¬ q < b.length
  | 0, last, m, p, m2, q, hp, hp1, hn, h => by
    rw [secsT] at h; cases h
    exact ⟨_, _, .nil _ _ _, by omega⟩
  | n + 1, last, m, p, m2, q, hp, hp1, hn, h => by
    rw [secsT] at h
    by_cases c : p < b.length
    · rw [if_pos c] at h
      rcases hx : sec1 b last m p with e | ⟨⟨l1, m1⟩, t⟩
      · rw [hx, bnd_err] at h; cases h
      · rw [hx, bnd_ok] at h
        have ht := sec1_lt hb hp hx
        obtain ⟨ps, l2, hr, hq⟩ := secs_run hb n (by omega) ht.2 (by omega) h
        exact ⟨_, _, .cons hx hr, hq⟩
    · rw [if_neg c] at h; cases h
      exact ⟨_, _, .nil _ _ _, by omega⟩
theorem run_secs {c : List Int} {last : Int} {m : Mod} {p l2 : Int} {m2 : Mod} {q : Int} {ps : List Int} (hr : Run c last m p ps l2 m2 q) (hb : bytes c) : ∀ n : Nat, 0 <= p -> (c.length : Int) - p <= n -> ∃ n' : Nat, (c.length : Int) - q <= n' /\ secsT c n last m p = secsT c n' l2 m2 q := by
  induction hr with
  | nil => exact fun n _ hn => ⟨n, hn, rfl⟩
  | @cons last m p l1 m1 t ps l2 m2 q h hr ih =>
    intro n hp hn
    obtain ⟨id, k, s, hs, _, _⟩ := sec1_inv h
    have ht := sec1_lt hb hp h
    have hlt := hs.lt
    rcases n with _ | n
    · omega
    obtain ⟨n', h1, h2⟩ := ih n (by omega) (by omega)
    refine ⟨n', h1, ?_⟩
    rw [secsT, if_pos hlt, h, bnd_ok]
    exact h2
theorem run_bnd {b : List Int} {last : Int} {m : Mod} {p l2 : Int} {m2 : Mod} {q : Int} {ps : List Int} (hr : Run b last m p ps l2 m2 q) (hb : bytes b) (hp : 0 <= p /\ p <= b.length) : p <= q /\ q <= b.length := by
  induction hr with
  | nil => exact ⟨Int.le_refl _, hp.2⟩
  | cons h hr ih =>
    have := sec1_lt hb hp.1 h
    have := ih ⟨by omega, this.2⟩
    omega
theorem run_agree {b c : List Int} {last : Int} {m : Mod} {p l2 : Int} {m2 : Mod} {q : Int} {ps : List Int} (hr : Run b last m p ps l2 m2 q) (hb : bytes b) {k : Nat} (hkb : k <= b.length) (hc : c.take k = b.take k) (hkc : k <= c.length) (hp : 0 <= p) (hq : q <= k) : Run c last m p ps l2 m2 q := by
  induction hr with
  | nil => exact .nil _ _ _
  | @cons last m p l1 m1 t ps l2 m2 q h hr ih =>
    have h1 := sec1_lt hb hp h
    have h2 := run_bnd hr hb ⟨by omega, h1.2⟩
    exact .cons (sec1_agree hp h (by omega) hkb hc hkc hb) (ih (by omega) hq)
theorem run_split {b : List Int} {last : Int} {m : Mod} {p l2 : Int} {m2 : Mod} {q : Int} {ps : List Int} (hr : Run b last m p ps l2 m2 q) : ∀ k : Nat, (hk : k < ps.length) -> ∃ l1 m1 ps1 ps2, Run b last m p ps1 l1 m1 ps[k] /\ Run b l1 m1 ps[k] ps2 l2 m2 q /\ ps2 = ps.drop k := by
  induction hr with
  | nil last m p =>
    intro k hk
    obtain rfl : k = 0 := by simp at hk; omega
    exact ⟨_, _, _, _, .nil _ _ _, .nil _ _ _, rfl⟩
  | @cons last m p l1 m1 t ps l2 m2 q h hr ih =>
    intro k hk
    rcases k with _ | k
    · exact ⟨_, _, _, _, .nil _ _ _, .cons h hr, rfl⟩
    · obtain ⟨l3, m3, ps1, ps2, h1, h2, h3⟩ := ih k (by simp at hk; omega)
      exact ⟨l3, m3, _, ps2, .cons h (by simpa using h1), by simpa using h2, by simpa using h3⟩
theorem run_head {b : List Int} {last : Int} {m : Mod} {p l2 : Int} {m2 : Mod} {q : Int} {ps : List Int} (hr : Run b last m p ps l2 m2 q) : ∃ l, ps = p :: l := by
  cases hr <;> exact ⟨_, rfl⟩
theorem run_cut {b : List Int} {last : Int} {m : Mod} {p l2 : Int} {m2 : Mod} {q : Int} {ps : List Int} (hr : Run b last m p ps l2 m2 q) : ∀ k : Int, p <= k -> k <= q -> k ∈ ps \/ ∃ l1 m1 s x t ps1, Run b last m p ps1 l1 m1 s /\ sec1 b l1 m1 s = .ok (x, t) /\ s < k /\ k < t := by
  induction hr with
  | nil last m p => intro k h1 h2; exact .inl (by simp; omega)
  | @cons last m p l1 m1 t ps l2 m2 q h hr ih =>
    intro k h1 h2
    by_cases c : k = p
    · exact .inl (by simp [c])
    by_cases c2 : k < t
    · exact .inr ⟨_, _, _, _, _, _, .nil _ _ _, h, by omega, c2⟩
    · rcases ih k (by omega) h2 with h3 | ⟨l3, m3, s, x, t3, ps1, h3, h4, h5, h6⟩
      · exact .inl (List.mem_cons_of_mem _ h3)
      · exact .inr ⟨l3, m3, s, x, t3, _, .cons h h3, h4, h5, h6⟩
theorem sec1_cut {b : List Int} (hb : bytes b) {last : Int} {m : Mod} {s : Int} {x : Int × Mod} {t : Int} (hs : 0 <= s) (h : sec1 b last m s = .ok (x, t)) {k : Nat} (h1 : s < k) (h2 : (k : Int) < t) : ∃ q, sec1 (b.take k) last m s = .error (10, q) := by
  obtain ⟨id, n, u, hu, _, _⟩ := sec1_inv h
  have htl := hu.tl
  have hl : (b.take k).length = k := by rw [List.length_take]; omega
  unfold sec1 byteT
  rw [if_neg (by omega), bnd_ok]
  unfold partT partN
  rcases nm_cut (b := b) (k := k) (by omega) (p := s + 1) (by omega) hu.nm with ⟨h3, h4⟩ | ⟨h3, h4⟩
  · have := hu.tt
    rw [h4, bnd_ok, if_pos (by omega)]
    exact ⟨_, rfl⟩
  · rw [h4]
    exact ⟨_, rfl⟩
end Go.Proofs.YtmomeejfopfchaaDoor
