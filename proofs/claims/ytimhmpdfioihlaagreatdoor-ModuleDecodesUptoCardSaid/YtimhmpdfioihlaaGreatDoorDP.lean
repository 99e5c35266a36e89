/- A library of mine: what a step list leaves is handed out. -/
import Derived.Test.YtimhmpdfioihlaaGreatDoorGCB
set_option linter.unusedSimpArgs false
set_option linter.unusedVariables false
namespace Go.Abs
open Go Go.RowKit
section
section
variable {P : Program} {C : Ctx} {st st' : St} {a : Act} {w : World} {l : List Oper} {o : Oper} {Q : Exit -> St -> Prop}
def Tok {p : Prop} (_h : p) : Type := Unit
theorem dep {p : Prop} (h : p) (_d : Tok h) : p := h
theorem aI {p q : Prop} (h : p) (k : q) : p /\ q := ⟨h, k⟩
theorem Zs (l : List Nat) {P : Program} {c : Code} {Q : Exit -> St -> Prop} {st : St} (h : AW P c Q (st.keepS l)) : AW P c Q st := AW.keepS _ h
@[irreducible] def bA (n m : Nat) : Array Bool := ((List.range n).map fun k => m.testBit k).toArray
theorem Zda (h : Zcx Q := by first | assumption | exact Z2 | exact Zx | exact Zbp | exact Zbo (by first | assumption | exact Z2 | exact Zx | exact Zbp) | exact Zat (by assumption)) : Zcx Q := h
theorem AW.seqA {x y : Code} (h : ∀ Q', QEq Q' (Zb1 (AW P y Q) Q) -> Zcx Q' -> AW P x Q' st) (hp : Zcx Q := by first | assumption | exact Z2 | exact Zx | exact Zbp | exact Zbo (by first | assumption | exact Z2 | exact Zx | exact Zbp) | exact Zat (by assumption)) : AW P (.seq x y) Q st := AW.seqP hp h
theorem AW.blockA {id : Nat} {c : Code} (h : ∀ Q', QEq Q' (Go.Abs.blockQ id Q) -> Zcx Q' -> AW P c Q' st) (hp : Zcx Q := by first | assumption | exact Z2 | exact Zx | exact Zbp | exact Zbo (by first | assumption | exact Z2 | exact Zx | exact Zbp) | exact Zat (by assumption)) : AW P (.block id c) Q st := AW.blockP hp h
end
theorem Zi {p : Prop} (h : p := by
 (conv => arg -1; simp (disch := omega) only [NM, Nat.reduceBEq, reduceAdd, reduceMul, Int.reduceToNat, reduceSub, List.set_cons_zero, List.set_cons_succ, nx])
 all_goals (apply_rules (newGoals := .nonDependentOnly) only [dep]; exact ())) : p := h
theorem Zj2 {p : Prop} (h : p := by
 (conv => arg -1; simp (disch := omega) only [NSX, Nat.reduceBEq, Nat.reduceAdd, Nat.reduceMul, Int.reduceToNat, Nat.reduceSub, TY, List.set_cons_zero, List.set_cons_succ, SLS, Za, Zag, Zo, nx])
 all_goals (apply_rules (newGoals := .nonDependentOnly) only [dep]; exact ())) : p := h
theorem Ziy {p : Prop} (h : p := by
 (conv => arg -1; simp (disch := omega) only [NSX, St.keepS, Nat.reduceBEq, Nat.reduceAdd, Nat.reduceMul, Int.reduceToNat, Nat.reduceSub, TY, List.set_cons_zero, List.set_cons_succ, SLS, Za, Zag, Zo, W4, ZeI, nx])
 all_goals (apply_rules (newGoals := .nonDependentOnly) only [dep]; exact ())) : p := h
theorem Zm1 {p : Prop} (h : p := by
 (conv => arg -1; simp (disch := omega) only [NSX, St.keepS, Nat.reduceBEq, Nat.reduceAdd, Nat.reduceMul, Int.reduceToNat, Nat.reduceSub, TY, List.set_cons_zero, List.set_cons_succ, SLS, Za, Zag, Zo, N6, nx])
 all_goals (apply_rules (newGoals := .nonDependentOnly) only [dep]; exact ())) : p := h
theorem Zm2 {p : Prop} (h : p := by
 (conv => arg -1; simp (disch := omega) only [NSX, St.keepS, Nat.reduceBEq, Nat.reduceAdd, Nat.reduceMul, Int.reduceToNat, Nat.reduceSub, TY, List.set_cons_zero, List.set_cons_succ, SLS, Za, Zag, Zo, Y4, nx])
 all_goals (apply_rules (newGoals := .nonDependentOnly) only [dep]; exact ())) : p := h
theorem Ziz {p : Prop} (h : p := by
 (conv => arg -1; simp (disch := omega) only [NSX, St.keepS, Nat.reduceBEq, Nat.reduceAdd, Nat.reduceMul, Int.reduceToNat, Nat.reduceSub, TY, List.set_cons_zero, List.set_cons_succ, SLS, Za, Zag, Zo, F3, nx])
 all_goals (apply_rules (newGoals := .nonDependentOnly) only [dep]; exact ())) : p := h
theorem Zm3 {p : Prop} (h : p := by
 (conv => arg -1; simp (disch := omega) only [NSX, St.keepS, Nat.reduceBEq, Nat.reduceAdd, Nat.reduceMul, Int.reduceToNat, Nat.reduceSub, TY, SLS, List.set_cons_zero, List.set_cons_succ, Zas, Za5, dz, Za, S33, nx])
 all_goals (apply_rules (newGoals := .nonDependentOnly) only [dep]; exact ())) : p := h
theorem ZfE {p : Prop} (h : p := by
 (conv => arg -1; simp (disch := omega) only [NSX, St.keepS, Nat.reduceBEq, Nat.reduceAdd, Nat.reduceMul, Int.reduceToNat, Nat.reduceSub, TY, List.set_cons_zero, List.set_cons_succ, SLS, Za, Zag, Zo, nx])
 all_goals (apply_rules (newGoals := .nonDependentOnly) only [dep]; exact ())) : p := h
theorem ZfF {p : Prop} (h : p := by
 (conv => arg -1; simp (disch := omega) only [NSX, St.keepS, Nat.reduceBEq, Nat.reduceAdd, Nat.reduceMul, Int.reduceToNat, Nat.reduceSub, TY, SLS, List.set_cons_zero, List.set_cons_succ, Zas, Za5, dz, Za, nx])
 all_goals (apply_rules (newGoals := .nonDependentOnly) only [dep]; exact ())) : p := h
theorem ZcP {p : Prop} (h : p := by
 (conv => arg -1; simp (disch := omega) only [NSX, St.keepS, Nat.reduceBEq, Nat.reduceAdd, Nat.reduceMul, Int.reduceToNat, Nat.reduceSub, TY, SLS, List.set_cons_zero, List.set_cons_succ, Za, S20, T20, nx])
 all_goals (apply_rules (newGoals := .nonDependentOnly) only [dep]; exact ())) : p := h
theorem Ziw {p : Prop} (h : p := by
 (conv => arg -1; simp (disch := omega) only [NSX, St.keepS, Nat.reduceBEq, Nat.reduceAdd, Nat.reduceMul, Int.reduceToNat, Nat.reduceSub, TY, SLS, List.set_cons_zero, List.set_cons_succ, Za, S12, nx])
 all_goals (apply_rules (newGoals := .nonDependentOnly) only [dep]; exact ())) : p := h
theorem Zix {p : Prop} (h : p := by
 (conv => arg -1; simp (disch := omega) only [NSX, St.keepS, Nat.reduceBEq, Nat.reduceAdd, Nat.reduceMul, Int.reduceToNat, Nat.reduceSub, TY, SLS, List.set_cons_zero, List.set_cons_succ, Za, S12, Yap, nx])
 all_goals (apply_rules (newGoals := .nonDependentOnly) only [dep]; exact ())) : p := h
theorem ZmZ {p : Prop} (h : p := by
 (conv => arg -1; simp (disch := omega) only [NSX, St.keepS, Nat.reduceBEq, Nat.reduceAdd, Nat.reduceMul, Int.reduceToNat, Nat.reduceSub, TY, SLS, List.set_cons_zero, List.set_cons_succ, Za, S14, nx])
 all_goals (apply_rules (newGoals := .nonDependentOnly) only [dep]; exact ())) : p := h
theorem Zm0 {p : Prop} (h : p := by
 (conv => arg -1; simp (disch := omega) only [NSX, St.keepS, Nat.reduceBEq, Nat.reduceAdd, Nat.reduceMul, Int.reduceToNat, Nat.reduceSub, TY, SLS, List.set_cons_zero, List.set_cons_succ, Za, S14, Yap, nx])
 all_goals (apply_rules (newGoals := .nonDependentOnly) only [dep]; exact ())) : p := h
theorem Zj3 {p : Prop} (h : p := by
 (conv => arg -1; simp (disch := omega) only [NSX, Nat.reduceBEq, Nat.reduceAdd, Nat.reduceMul, Int.reduceToNat, Nat.reduceSub, TY, List.set_cons_zero, List.set_cons_succ, SLS, Za, Zag, Zo, O5, O11, nx])
 all_goals (apply_rules (newGoals := .nonDependentOnly) only [dep]; exact ())) : p := h
theorem ZcQ {p : Prop} (h : p := by
 (conv => arg -1; simp (disch := omega) only [NSX, St.keepS, Nat.reduceBEq, Nat.reduceAdd, Nat.reduceMul, Int.reduceToNat, Nat.reduceSub, TY, List.set_cons_zero, List.set_cons_succ, SLS, Za, Zag, Zo, R5, R8, Zqd, nx])
 all_goals (apply_rules (newGoals := .nonDependentOnly) only [dep]; exact ())) : p := h
theorem Zsh {p : Prop} (h : p := by
 (conv => arg -1; simp (disch := omega) only [NM, Nat.reduceBEq, reduceAdd, reduceMul, Int.reduceToNat, reduceSub, List.set_cons_zero, List.set_cons_succ, Bool.or_true, Bool.false_or, Bool.true_or, nx])
 all_goals (apply_rules (newGoals := .nonDependentOnly) only [dep]; exact ())) : p := h
theorem ZiA {p : Prop} (h : p := by
 first
  | with_reducible (first | show AWL _ _ _ _ _ | show AW _ _ _ _ | show DQ _ _ _ _ _ _)
  | fail
 all_goals (apply_rules (newGoals := .nonDependentOnly) only [dep]; exact ())) : p := h
theorem Zap {p : Prop} (h : p := by
 first
  | (rintro _ _ ⟨rfl, rfl⟩; (try refine And.intro rfl ?_))
  | fail
 all_goals (apply_rules (newGoals := .nonDependentOnly) only [dep]; exact ())) : p := h
theorem ZdR {p : Prop} (h : p := by
 first
  | ((first | refine' ZiA | refine' Zap); (try refine' Zi))
  | fail
 all_goals (apply_rules (newGoals := .nonDependentOnly) only [dep]; exact ())) : p := h
theorem Zm7 {p : Prop} (h : p := by
 first
  | with_reducible (first | show AWL _ _ _ _ _ | show AW _ _ _ _ | show FW _ _ _ _ _ _ _ _ _ _ | show CW _ _ _ _ _ _ _ _ _ _ _ _)
  | fail
 all_goals (apply_rules (newGoals := .nonDependentOnly) only [dep]; exact ())) : p := h
theorem Zeu {p : Prop} (h : p := by
 first
  | ((first | refine' Zm7 | (rintro _ _ ⟨⟩; done) | refine' Zap); (try refine' Zi))
  | fail
 all_goals (apply_rules (newGoals := .nonDependentOnly) only [dep]; exact ())) : p := h
theorem ZiB {p : Prop} (h : p := by
 first
  | (rintro _ _ ⟨rfl, rfl⟩; (try refine And.intro (by kernel_rfl) ?_))
  | fail
 all_goals (apply_rules (newGoals := .nonDependentOnly) only [dep]; exact ())) : p := h
theorem ZfG {p : Prop} (h : p := by
 first
  | ((first | refine' ZiA | refine' ZiB); (try refine' Zi))
  | fail
 all_goals (apply_rules (newGoals := .nonDependentOnly) only [dep]; exact ())) : p := h
theorem ZdS {p : Prop} (h : p := by
 first
  | ((first | refine' ZiA | (rintro _ _ ⟨⟩; done) | refine' Zap); (try refine' Zi))
  | fail
 all_goals (apply_rules (newGoals := .nonDependentOnly) only [dep]; exact ())) : p := h
theorem Zm8 {p : Prop} (h : p := by
 first
  | ((first | refine' Zm7 | refine' Zap); (try refine' Zi))
  | fail
 all_goals (apply_rules (newGoals := .nonDependentOnly) only [dep]; exact ())) : p := h
theorem Zy {p : Prop} (h : p := by
 first
  | ((first | refine' ZiA | (rintro _ _ ⟨⟩; done) | refine' ZiB); (try refine' Zi))
  | fail
 all_goals (apply_rules (newGoals := .nonDependentOnly) only [dep]; exact ())) : p := h
theorem ZiC {p : Prop} (h : p := by
 first
  | ((first | refine' Zm7 | refine' ZiB); (try refine' Zi))
  | fail
 all_goals (apply_rules (newGoals := .nonDependentOnly) only [dep]; exact ())) : p := h
theorem ZiD {p : Prop} (h : p := by
 first
  | ((first | refine' ZiA | refine' ZiB); (try refine' Zsh))
  | fail
 all_goals (apply_rules (newGoals := .nonDependentOnly) only [dep]; exact ())) : p := h
theorem Zev {p : Prop} (h : p := by
 first
  | ((first | with_reducible (first | show AWL _ _ _ _ _ | show AW _ _ _ _ | show DQ _ _ _ _ _ _ | show DWL _ _ _ _ _ _) | (rintro _ _ ⟨⟩; done) | refine' ZiB); (try refine' Zi))
  | fail
 all_goals (apply_rules (newGoals := .nonDependentOnly) only [dep]; exact ())) : p := h
theorem Zf {p : Prop} (h : p := by
 first
  | ((with_reducible show AW _ _ _ _); first | ((first | refine AW.seqA ?_ | refine AW.blockA ?_); intro Qn hQn hPn))
  | fail
 all_goals (apply_rules (newGoals := .nonDependentOnly) only [dep]; exact ())) : p := h
theorem Zew {p : Prop} (h : p := by
 first
  | simp only [Zb1, Go.Abs.blockQ, ↓reduceIte, Nat.reduceEqDiff]
  | fail
 all_goals (apply_rules (newGoals := .nonDependentOnly) only [dep]; exact ())) : p := h
theorem Zk {p : Prop} (h : p := by
 first
  | ((with_reducible first | show AWL _ _ _ _ _ | show AW _ _ _ _); (first | refine AWL.nil ?_ | refine AW.skip ?_ | refine AW.ret ?_ | refine AW.exit ?_); (repeat (first | refine QEq.mp (by assumption) ?_ | refine' Zew)))
  | fail
 all_goals (apply_rules (newGoals := .nonDependentOnly) only [dep]; exact ())) : p := h
theorem Zex {p : Prop} (h : p := by
 first
  | ((show AW _ (.region _ _ false) _ _); refine kp ?_; refine AW.region ?_)
  | fail
 all_goals (apply_rules (newGoals := .nonDependentOnly) only [dep]; exact ())) : p := h
theorem Zt {p : Prop} (h : p := by
 first
  | ((with_reducible show AW _ _ _ _); first | refine' Zex)
  | fail
 all_goals (apply_rules (newGoals := .nonDependentOnly) only [dep]; exact ())) : p := h
theorem Ze {p : Prop} (h : p := by
 first
  | ((with_reducible show AW _ _ _ _); first | (refine AW.cond rfl (fun hc => ?_) (fun hc => ?_) <;> first | (cases hc; done) | ((try simp only [HCX] at hc); (try (exfalso; omega)); (try (guard_hyp hc : True; clear hc)))))
  | fail
 all_goals (apply_rules (newGoals := .nonDependentOnly) only [dep]; exact ())) : p := h
theorem Zal {p : Prop} (h : p := by
 first
  | ((refine Zdi.mk rfl rfl rfl ?_ ?_ ?_; (focus (first | exact Or.inl rfl | exact Or.inr rfl))) <;> (try simp (disch := omega) only [NM, Nat.reduceBEq, reduceAdd, reduceMul, Int.reduceToNat, reduceSub, List.set_cons_zero, List.set_cons_succ, nx]))
  | fail
 all_goals (apply_rules (newGoals := .nonDependentOnly) only [dep]; exact ())) : p := h
theorem Zsj {p : Prop} (h : p := by
 first
  | ((first | refine AW.skip ?_ | refine AW.ret ?_ | refine AW.exit ?_ | refine AWL.nil ?_ | refine CW.nil ?_); (repeat (first | refine QEq.mp (by assumption) ?_ | refine' Zew)))
  | fail
 all_goals (apply_rules (newGoals := .nonDependentOnly) only [dep]; exact ())) : p := h
theorem Zsk {p : Prop} (h : p := by
 first
  | (refine AWL.boxF (t := 182) rfl rfl rfl rfl rfl ?_)
  | fail
 all_goals (apply_rules (newGoals := .nonDependentOnly) only [dep]; exact ())) : p := h
theorem Zsl {p : Prop} (h : p := by
 first
  | (refine AWL.allocF (t := 182) rfl rfl rfl rfl rfl rfl ?_)
  | fail
 all_goals (apply_rules (newGoals := .nonDependentOnly) only [dep]; exact ())) : p := h
theorem Zsm {p : Prop} (h : p := by
 first
  | (refine CWr.allocF (t := 182) rfl rfl rfl ?_ ?_)
  | fail
 all_goals (apply_rules (newGoals := .nonDependentOnly) only [dep]; exact ())) : p := h
theorem Zsn {p : Prop} (h : p := by
 first
  | (refine CWr.build rfl rfl rfl rfl ?_ rfl rfl rfl ?_)
  | fail
 all_goals (apply_rules (newGoals := .nonDependentOnly) only [dep]; exact ())) : p := h
theorem Zcy {p : Prop} (h : p := by
 first
  | ((with_reducible show AW _ _ _ _); first | ((fail_if_success (show AW _ (.region 12 _ _) _ _)); (show AW _ (.region _ _ false) _ _); refine kp ?_; refine AW.region ?_))
  | fail
 all_goals (apply_rules (newGoals := .nonDependentOnly) only [dep]; exact ())) : p := h
theorem Zso {p : Prop} (h : p := by
 first
  | (refine AW.cond rfl (fun hc => ?_) (fun hc => ?_) <;> first | (cases hc; done) | ((try simp only [beq_iff_eq, bne_iff_ne, Yaz, decide_eq_false_iff_not, Yam, bne_eq_false_iff_eq, ne_eq, Bool.not_eq_true, Bool.not_eq_false, Bool.not_eq_eq_eq_not, Bool.not_true, Bool.not_false, Decidable.not_not, Int.not_lt, Int.not_le] at hc); (try (exfalso; omega)); (try (guard_hyp hc : True; clear hc))))
  | fail
 all_goals (apply_rules (newGoals := .nonDependentOnly) only [dep]; exact ())) : p := h
theorem Zbt {p : Prop} (h : p := by
 first
  | ((with_reducible show CW _ _ _ _ _ _ _ _ _ _ _ _); first | refine CW.skip rfl rfl ?_ | refine CW.step rfl rfl rfl rfl rfl ?_)
  | fail
 all_goals (apply_rules (newGoals := .nonDependentOnly) only [dep]; exact ())) : p := h
theorem Zbu {p : Prop} (h : p := by
 first
  | ((with_reducible show FW _ _ _ _ _ _ _ _ _ _); first | refine FW.pass rfl rfl ?_ | refine FW.go rfl ?_ | refine FW.nil ?_)
  | fail
 all_goals (apply_rules (newGoals := .nonDependentOnly) only [dep]; exact ())) : p := h
theorem Zbv {p : Prop} (h : p := by
 first
  | ((with_reducible first | show AWL _ _ _ _ _ | show AW _ _ _ _ | show CW _ _ _ _ _ _ _ _ _ _ _ _); (first | refine AWL.nil ?_ | refine AW.skip ?_ | refine AW.ret ?_ | refine AW.exit ?_ | refine CW.nil ?_); (repeat (first | refine QEq.mp (by assumption) ?_ | refine' Zew)))
  | fail
 all_goals (apply_rules (newGoals := .nonDependentOnly) only [dep]; exact ())) : p := h
theorem ZaD {p : Prop} (h : p := by
 first
  | refine AWL.opN (sl := SL) rfl rfl rfl trivial ?_
  | fail
 all_goals (apply_rules (newGoals := .nonDependentOnly) only [dep]; exact ())) : p := h
theorem ZcR {p : Prop} (h : p := by
 first
  | (refine AWL.ptrNil rfl rfl rfl rfl rfl rfl (by kernel_rfl) ?_)
  | fail
 all_goals (apply_rules (newGoals := .nonDependentOnly) only [dep]; exact ())) : p := h
theorem ZcS {p : Prop} (h : p := by
 first
  | (refine AWL.sliceNil rfl rfl rfl rfl rfl (by kernel_rfl) ?_ ?_; (focus (first | exact trivial | exact numsZ)); (intro r hr; cases r <;> first | (have hr := hr rfl) | (clear hr)))
  | fail
 all_goals (apply_rules (newGoals := .nonDependentOnly) only [dep]; exact ())) : p := h
theorem Znb {p : Prop} (h : p := by
 first
  | ((with_reducible show AWL _ _ _ _ _); first | refine' ZaD | (refine AWL.op (sl := SL) rfl rfl ?_ ?_) | refine' ZcR | refine' ZcS)
  | fail
 all_goals (apply_rules (newGoals := .nonDependentOnly) only [dep]; exact ())) : p := h
theorem Zng {p : Prop} (h : p := by
 first
  | ((with_reducible show CWr _ _ _ _ _ _ _ _ _ _ _ _ _ _); first | (refine CWr.op rfl ?_ ?_ ?_))
  | fail
 all_goals (apply_rules (newGoals := .nonDependentOnly) only [dep]; exact ())) : p := h
theorem Zdl {p : Prop} (h : p := by
 first
  | ((with_reducible show CW _ _ _ _ _ _ _ _ _ _ _ _); first | refine CW.tail rfl ?_)
  | fail
 all_goals (apply_rules (newGoals := .nonDependentOnly) only [dep]; exact ())) : p := h
theorem Zbw {p : Prop} (h : p := by
 first
  | ((with_reducible show FW _ _ _ _ _ _ _ _ _ _); first | (refine FW.float rfl rfl rfl rfl rfl ?_))
  | fail
 all_goals (apply_rules (newGoals := .nonDependentOnly) only [dep]; exact ())) : p := h
theorem Zbx {p : Prop} (h : p := by
 first
  | ((with_reducible show True); exact trivial) | ((with_reducible show ZmA _ _ _ _ _ _); (repeat' (first | exact trivial | exact Or.inr (Or.inl rfl) | exact Or.inl rfl | exact Or.inr (Or.inr rfl) | refine And.intro ?_ ?_)); done) | ((with_reducible show Zc4 _ _ _ = true); kernel_rfl)
  | fail
 all_goals (apply_rules (newGoals := .nonDependentOnly) only [dep]; exact ())) : p := h
theorem Zsi {p : Prop} (h : p := by
 first
  | ((with_reducible show AWL _ _ _ _ _); first | refine' ZaD | (refine AWL.op (sl := SL) rfl rfl ?_ ?_))
  | fail
 all_goals (apply_rules (newGoals := .nonDependentOnly) only [dep]; exact ())) : p := h
theorem Zbd {p : Prop} (h : p := by
 first
  | (refine AWL.nil ?_; (repeat (first | refine QEq.mp (by assumption) ?_ | refine' Zew)))
  | fail
 all_goals (apply_rules (newGoals := .nonDependentOnly) only [dep]; exact ())) : p := h
theorem Zey {p : Prop} (h : p := by
 first
  | exact Zbo (by first | assumption | exact Z2 | exact Zx)
  | fail
 all_goals (apply_rules (newGoals := .nonDependentOnly) only [dep]; exact ())) : p := h
theorem ZgT {p : Prop} (h : p := by
 first
  | exact Zat (by first | assumption | exact Z2 | exact Zx)
  | fail
 all_goals (apply_rules (newGoals := .nonDependentOnly) only [dep]; exact ())) : p := h
theorem Zbe {p : Prop} (h : p := by
 first
  | (refine AW.seqQ ?_; intro Qn hQn; (try have hPn := QEq.pan hQn (Zbo (by (first | assumption | exact Z2 | exact Zx | refine' Zey | refine' ZgT)))))
  | fail
 all_goals (apply_rules (newGoals := .nonDependentOnly) only [dep]; exact ())) : p := h
theorem Zbf {p : Prop} (h : p := by
 first
  | (refine AW.blockQ ?_; intro Qn hQn; (try have hPn := QEq.pan hQn (Zat (by (first | assumption | exact Z2 | exact Zx | refine' Zey | refine' ZgT)))))
  | fail
 all_goals (apply_rules (newGoals := .nonDependentOnly) only [dep]; exact ())) : p := h
theorem Zbg {p : Prop} (h : p := by
 first
  | ((first | refine AW.skip ?_ | refine AW.ret ?_ | refine AW.exit ?_); (repeat (first | refine QEq.mp (by assumption) ?_ | refine' Zew)))
  | fail
 all_goals (apply_rules (newGoals := .nonDependentOnly) only [dep]; exact ())) : p := h
theorem Zsp {p : Prop} (h : p := by
 first
  | (refine AWL.opN (sl := SL) rfl rfl rfl trivial ?_; (try refine' ZfE))
  | fail
 all_goals (apply_rules (newGoals := .nonDependentOnly) only [dep]; exact ())) : p := h
theorem Zez {p : Prop} (h : p := by
 first
  | ((try simp only [hc]); (try simp only [beq_iff_eq, bne_iff_ne, Yaz, decide_eq_false_iff_not, Yam, bne_eq_false_iff_eq, ne_eq, Bool.not_eq_true, Bool.not_eq_false, Bool.not_eq_eq_eq_not, Bool.not_true, Bool.not_false, Decidable.not_not, Int.not_lt, Int.not_le, decide_eq_decide, not_true_eq_false] at hc); (try (exfalso; omega)); (try (guard_hyp hc : True; clear hc)))
  | fail
 all_goals (apply_rules (newGoals := .nonDependentOnly) only [dep]; exact ())) : p := h
theorem Zdk {p : Prop} (h : p := by
 first
  | (with_reducible show AWL _ _ _ _ (St.put _ _ _))
  | fail
 all_goals (apply_rules (newGoals := .nonDependentOnly) only [dep]; exact ())) : p := h
theorem Zsq {p : Prop} (h : p := by
 first
  | (refine AWL.guard2 rfl rfl rfl rfl rfl rfl ?_ ?_ <;> (intro hc; (try simp only [Bool.not_true, Bool.not_false] at hc); first | (cases hc; done) | refine' Zez) <;> (try (first | refine' Zdk); (try refine' ZfE)))
  | fail
 all_goals (apply_rules (newGoals := .nonDependentOnly) only [dep]; exact ())) : p := h
theorem Zsr {p : Prop} (h : p := by
 first
  | ((show AW _ (.region _ _ false) _ _); refine kp ?_; (try refine' ZfE); refine AW.region ?_)
  | fail
 all_goals (apply_rules (newGoals := .nonDependentOnly) only [dep]; exact ())) : p := h
theorem Zss {p : Prop} (h : p := by
 first
  | ((refine Zdi.mk rfl rfl rfl ?_ ?_ ?_; (focus (first | exact Or.inl rfl | exact Or.inr rfl))) <;> (try simp (disch := omega) only [NSX, St.keepS, Nat.reduceBEq, Nat.reduceAdd, Nat.reduceMul, Int.reduceToNat, Nat.reduceSub, TY, List.set_cons_zero, List.set_cons_succ, SLS, Za, Zag, Zo, nx]))
  | fail
 all_goals (apply_rules (newGoals := .nonDependentOnly) only [dep]; exact ())) : p := h
theorem Zm9 {p : Prop} (h : p := by
 first
  | (refine CW.nil ?_; (repeat (first | refine QEq.mp (by assumption) ?_ | refine' Zew)))
  | fail
 all_goals (apply_rules (newGoals := .nonDependentOnly) only [dep]; exact ())) : p := h
theorem ZbK {p : Prop} (h : p := by
 first
  | ((try simp only [beq_iff_eq, bne_iff_ne, Yaz, decide_eq_false_iff_not, Yam, bne_eq_false_iff_eq, ne_eq, Bool.not_eq_true, Bool.not_eq_false, Bool.not_eq_eq_eq_not, Bool.not_true, Bool.not_false, Decidable.not_not, Int.not_lt, Int.not_le, decide_eq_decide, not_true_eq_false] at hc); (try (exfalso; omega)); (try (guard_hyp hc : True; clear hc)))
  | fail
 all_goals (apply_rules (newGoals := .nonDependentOnly) only [dep]; exact ())) : p := h
theorem Zna {p : Prop} (h : p := by
 first
  | (refine AW.cond rfl (fun hc => ?_) (fun hc => ?_) <;> first | (cases hc; done) | refine' ZbK)
  | fail
 all_goals (apply_rules (newGoals := .nonDependentOnly) only [dep]; exact ())) : p := h
theorem Zm {p : Prop} (h : p := by
 first
  | ((with_reducible show AWL _ _ _ _ _); refine AWL.lentD rfl rfl ?_; (try refine' Zi))
  | fail
 all_goals (apply_rules (newGoals := .nonDependentOnly) only [dep]; exact ())) : p := h
theorem ZgU {p : Prop} (h : p := by
 first
  | ((refine Zjx.mk [0, 1002] rfl rfl rfl rfl ?_ ?_ ?_ ?_; (focus (first | exact Or.inl rfl | exact Or.inr rfl)); (focus (repeat (first | exact List.forall_mem_nil _ | refine Ya5.2 ⟨rfl, ?_⟩)))) <;> (try simp (disch := omega) only [NM, Nat.reduceBEq, reduceAdd, reduceMul, Int.reduceToNat, reduceSub, List.set_cons_zero, List.set_cons_succ, nx]))
  | fail
 all_goals (apply_rules (newGoals := .nonDependentOnly) only [dep]; exact ())) : p := h
theorem ZiE {p : Prop} (h : p := by
 first
  | ((try simp only [hc]); (try simp only [HCX] at hc); (try (exfalso; omega)); (try (guard_hyp hc : True; clear hc)))
  | fail
 all_goals (apply_rules (newGoals := .nonDependentOnly) only [dep]; exact ())) : p := h
theorem ZbS {p : Prop} (h : p := by
 first
  | (refine AWL.guard2 rfl rfl rfl rfl rfl rfl ?_ ?_ <;> (intro hc; (try simp only [Bool.not_true, Bool.not_false] at hc); first | (cases hc; done) | refine' ZiE))
  | fail
 all_goals (apply_rules (newGoals := .nonDependentOnly) only [dep]; exact ())) : p := h
theorem ZbT {p : Prop} (h : p := by
 first
  | ((with_reducible show AWL _ _ _ _ _); first | refine' ZaD | (refine AWL.op (sl := SL) rfl rfl ?_ ?_) | refine' ZcR | refine' ZcS | refine' ZbS | refine AWL.guardU rfl rfl rfl rfl rfl rfl ?_ | refine' cl)
  | fail
 all_goals (apply_rules (newGoals := .nonDependentOnly) only [dep]; exact ())) : p := h
theorem Zj4 {p : Prop} (h : p := by
 first
  | ((with_reducible show CWr _ _ _ _ _ _ _ _ _ _ _ _ _ _); first | (refine CWr.op rfl ?_ ?_ ?_) | (refine CWr.assign rfl ?_ ?_))
  | fail
 all_goals (apply_rules (newGoals := .nonDependentOnly) only [dep]; exact ())) : p := h
theorem ZsA {p : Prop} (h : p := by
 first
  | exact Zbo (by first | assumption | exact Z2 | exact Zx | exact Zbp)
  | fail
 all_goals (apply_rules (newGoals := .nonDependentOnly) only [dep]; exact ())) : p := h
theorem ZfI {p : Prop} (h : p := by
 first
  | ((with_reducible show AW _ _ _ _); first | refine' Zex | ((show AW _ (.region _ _ true) _ _); refine kp ?_; refine AW.calm true [] [] ZfU ?hpan ?hchkc rfl ?_; (case hchkc => (as_aux_lemma => kernel_rfl)); (case hpan => (first | assumption | exact Z2 | exact Zx | exact Zbp | refine' ZsA | exact Zat (by assumption)))))
  | fail
 all_goals (apply_rules (newGoals := .nonDependentOnly) only [dep]; exact ())) : p := h
theorem ZfH {p : Prop} (h : p := by
 first
  | ((with_reducible show AW _ _ _ _); first | refine' Zex | ((show AW _ (.region _ _ true) _ _); refine kp ?_; refine AW.calm true [] [] ZfU ?hpan ?hchkc rfl ?_; (case hchkc => (as_aux_lemma => kernel_rfl)); (case hpan => (first | assumption | exact Z2 | exact Zx | refine' Zey | exact Zat (by assumption)))))
  | fail
 all_goals (apply_rules (newGoals := .nonDependentOnly) only [dep]; exact ())) : p := h
theorem ZgV {p : Prop} (h : p := by
 first
  | ((with_reducible show AWL _ _ _ _ _); first | refine' ZaD | (refine AWL.op (sl := SL) rfl rfl ?_ ?_) | refine' ZcR | refine' ZcS | refine' cl)
  | fail
 all_goals (apply_rules (newGoals := .nonDependentOnly) only [dep]; exact ())) : p := h
theorem Zsw {p : Prop} (h : p := by
 first
  | ((refine ZmB.mk (Zjx.mk [] rfl rfl rfl rfl ?_ ?_ ?_ ?_); (focus (first | exact Or.inl rfl | exact Or.inr rfl)); (focus (repeat (first | exact List.forall_mem_nil _ | refine Ya5.2 ⟨rfl, ?_⟩)))) <;> (try simp (disch := omega) only [NM, Nat.reduceBEq, reduceAdd, reduceMul, Int.reduceToNat, reduceSub, List.set_cons_zero, List.set_cons_succ, nx]))
  | fail
 all_goals (apply_rules (newGoals := .nonDependentOnly) only [dep]; exact ())) : p := h
theorem Zsx {p : Prop} (h : p := by
 first
  | ((refine ZmB.pan [] rfl rfl (by repeat (first | exact List.forall_mem_nil _ | refine Ya5.2 ⟨rfl, ?_⟩)) ?_); (try simp (disch := omega) only [NM, Nat.reduceBEq, reduceAdd, reduceMul, Int.reduceToNat, reduceSub, List.set_cons_zero, List.set_cons_succ, nx]))
  | fail
 all_goals (apply_rules (newGoals := .nonDependentOnly) only [dep]; exact ())) : p := h
theorem Zby {p : Prop} (h : p := by
 first
  | (refine QEq.mp (by assumption) ?_; (try simp only [Zb1, Go.Abs.blockQ, ↓reduceIte, Nat.reduceEqDiff]); (try refine' Zi))
  | fail
 all_goals (apply_rules (newGoals := .nonDependentOnly) only [dep]; exact ())) : p := h
theorem ZsB {p : Prop} (h : p := by
 first
  | ((with_reducible show AWL _ _ _ _ _); first | refine' ZaD | (refine AWL.op (sl := SL) rfl rfl ?_ ?_) | (refine AWL.slice3 rfl rfl rfl rfl rfl rfl rfl rfl ?_ ?_; (focus (constructor <;> omega))) | refine' ZbS | refine AWL.guardU rfl rfl rfl rfl rfl rfl ?_ | refine' cl)
  | fail
 all_goals (apply_rules (newGoals := .nonDependentOnly) only [dep]; exact ())) : p := h
theorem Zj5 {p : Prop} (h : p := by
 first
  | refine CW.guardU rfl rfl rfl rfl rfl rfl rfl rfl ?_
  | fail
 all_goals (apply_rules (newGoals := .nonDependentOnly) only [dep]; exact ())) : p := h
theorem Zj6 {p : Prop} (h : p := by
 first
  | ((with_reducible show CW _ _ _ _ _ _ _ _ _ _ _ _); first | (refine CW.guard2 rfl rfl rfl rfl rfl rfl rfl rfl ?_ ?_ <;> (intro hc; (try simp only [Bool.not_true, Bool.not_false] at hc); first | (cases hc; done) | refine' ZiE)) | refine' Zj5 | refine CW.tail rfl ?_)
  | fail
 all_goals (apply_rules (newGoals := .nonDependentOnly) only [dep]; exact ())) : p := h
theorem Zaq {p : Prop} (h : p := by
 first
  | ((with_reducible show AWL _ _ _ _ _); first | refine' ZaD | (refine AWL.op (sl := SL) rfl rfl ?_ ?_) | refine' cl)
  | fail
 all_goals (apply_rules (newGoals := .nonDependentOnly) only [dep]; exact ())) : p := h
theorem Zdm {p : Prop} (h : p := by
 first
  | ((with_reducible first | show AWL _ _ _ _ _ | show AW _ _ _ _ | show DQ _ _ _ _ _ _); (first | refine AWL.nil ?_ | refine AW.skip ?_ | refine AW.ret ?_ | refine AW.exit ?_ | refine DQ.nil ?_); (repeat (first | refine QEq.mp (by assumption) ?_ | refine' Zew)))
  | fail
 all_goals (apply_rules (newGoals := .nonDependentOnly) only [dep]; exact ())) : p := h
theorem Znc {p : Prop} (h : p := by
 first
  | ((show AW _ (.region _ _ true) _ _); refine kp ?_; refine AW.drawn true ZfU ?_ ?_; (focus kernel_rfl))
  | fail
 all_goals (apply_rules (newGoals := .nonDependentOnly) only [dep]; exact ())) : p := h
theorem Zdn {p : Prop} (h : p := by
 first
  | ((with_reducible show AW _ _ _ _); first | refine' Zex | refine' Znc)
  | fail
 all_goals (apply_rules (newGoals := .nonDependentOnly) only [dep]; exact ())) : p := h
theorem ZdT {p : Prop} (h : p := by
 first
  | ((refine ZmB.mk (Zjx.mk [0] rfl rfl rfl rfl ?_ ?_ ?_ ?_); (focus (first | exact Or.inl rfl | exact Or.inr rfl)); (focus (repeat (first | exact List.forall_mem_nil _ | refine Ya5.2 ⟨rfl, ?_⟩)))) <;> (try simp (disch := omega) only [NM, Nat.reduceBEq, reduceAdd, reduceMul, Int.reduceToNat, reduceSub, List.set_cons_zero, List.set_cons_succ, nx]))
  | fail
 all_goals (apply_rules (newGoals := .nonDependentOnly) only [dep]; exact ())) : p := h
theorem ZdU {p : Prop} (h : p := by
 first
  | ((refine ZmB.pan [0] rfl rfl (by repeat (first | exact List.forall_mem_nil _ | refine Ya5.2 ⟨rfl, ?_⟩)) ?_); (try simp (disch := omega) only [NM, Nat.reduceBEq, reduceAdd, reduceMul, Int.reduceToNat, reduceSub, List.set_cons_zero, List.set_cons_succ, nx]))
  | fail
 all_goals (apply_rules (newGoals := .nonDependentOnly) only [dep]; exact ())) : p := h
theorem Znd {p : Prop} (h : p := by
 first
  | ((with_reducible show AWL _ _ _ _ _); first | refine' ZaD | (refine AWL.op (sl := SL) rfl rfl ?_ ?_) | (refine AWL.tassert1 rfl rfl rfl rfl rfl (by kernel_rfl) ?_) | (refine AWL.iNil rfl rfl rfl rfl rfl rfl ⟨by kernel_rfl, by kernel_rfl⟩ ?_))
  | fail
 all_goals (apply_rules (newGoals := .nonDependentOnly) only [dep]; exact ())) : p := h
theorem Zne {p : Prop} (h : p := by
 first
  | ((refine Zjx.mk [0, 1] rfl rfl rfl rfl ?_ ?_ ?_ ?_; (focus (first | exact Or.inl rfl | exact Or.inr rfl)); (focus (repeat (first | exact List.forall_mem_nil _ | refine Ya5.2 ⟨rfl, ?_⟩)))) <;> (try simp (disch := omega) only [NM, Nat.reduceBEq, reduceAdd, reduceMul, Int.reduceToNat, reduceSub, List.set_cons_zero, List.set_cons_succ, nx]))
  | fail
 all_goals (apply_rules (newGoals := .nonDependentOnly) only [dep]; exact ())) : p := h
theorem ZsF {p : Prop} (h : p := by
 first
  | ((with_reducible show AW _ _ _ _); first | ((fail_if_success (show AW _ (.region 5 _ _) _ _)); (show AW _ (.region _ _ false) _ _); refine kp ?_; refine AW.region ?_))
  | fail
 all_goals (apply_rules (newGoals := .nonDependentOnly) only [dep]; exact ())) : p := h
theorem ZiG {p : Prop} (h : p := by
 first
  | ((with_reducible show AT _ _ _ _ _ _); refine' att)
  | fail
 all_goals (apply_rules (newGoals := .nonDependentOnly) only [dep]; exact ())) : p := h
theorem ZiH {p : Prop} (h : p := by
 first
  | ((with_reducible show True); exact trivial) | ((with_reducible show ATQ _ _ _ _); show AT _ _ _ _ _ _)
  | fail
 all_goals (apply_rules (newGoals := .nonDependentOnly) only [dep]; exact ())) : p := h
theorem Zsy {p : Prop} (h : p := by
 first
  | ((refine ZmB.mk (Zjx.mk [0, 33] rfl rfl rfl rfl ?_ ?_ ?_ ?_); (focus (first | exact Or.inl rfl | exact Or.inr rfl)); (focus (repeat (first | exact List.forall_mem_nil _ | refine Ya5.2 ⟨rfl, ?_⟩)))) <;> (try simp (disch := omega) only [NM, Nat.reduceBEq, reduceAdd, reduceMul, Int.reduceToNat, reduceSub, List.set_cons_zero, List.set_cons_succ, nx]))
  | fail
 all_goals (apply_rules (newGoals := .nonDependentOnly) only [dep]; exact ())) : p := h
theorem Zsz {p : Prop} (h : p := by
 first
  | ((refine ZmB.pan [0, 33] rfl rfl (by repeat (first | exact List.forall_mem_nil _ | refine Ya5.2 ⟨rfl, ?_⟩)) ?_); (try simp (disch := omega) only [NM, Nat.reduceBEq, reduceAdd, reduceMul, Int.reduceToNat, reduceSub, List.set_cons_zero, List.set_cons_succ, nx]))
  | fail
 all_goals (apply_rules (newGoals := .nonDependentOnly) only [dep]; exact ())) : p := h
theorem ZeB {p : Prop} (h : p := by
 first
  | (refine DQ.step rfl rfl rfl rfl (Zb2.assign rfl) ?_)
  | fail
 all_goals (apply_rules (newGoals := .nonDependentOnly) only [dep]; exact ())) : p := h
theorem Zj8 {p : Prop} (h : p := by
 first
  | ((with_reducible show DQ _ _ _ _ _ _); first | (refine DQ.op rfl rfl rfl rfl rfl ?_ ?_) | refine' ZeB | refine DQ.tail rfl ?_)
  | fail
 all_goals (apply_rules (newGoals := .nonDependentOnly) only [dep]; exact ())) : p := h
theorem Zbz {p : Prop} (h : p := by
 first
  | ((with_reducible show AW _ .ret _ _); refine' rt)
  | fail
 all_goals (apply_rules (newGoals := .nonDependentOnly) only [dep]; exact ())) : p := h
theorem ZiF {p : Prop} (h : p := by
 first
  | ((refine Zjx.mk [0, 1002, 1, 2005] rfl rfl rfl rfl ?_ ?_ ?_ ?_; (focus (first | exact Or.inl rfl | exact Or.inr rfl)); (focus (repeat (first | exact List.forall_mem_nil _ | refine Ya5.2 ⟨rfl, ?_⟩)))) <;> (try simp (disch := omega) only [NM, Nat.reduceBEq, reduceAdd, reduceMul, Int.reduceToNat, reduceSub, List.set_cons_zero, List.set_cons_succ, nx]))
  | fail
 all_goals (apply_rules (newGoals := .nonDependentOnly) only [dep]; exact ())) : p := h
theorem ZeA {p : Prop} (h : p := by
 first
  | (refine AWL.allocF (t := 185) rfl rfl rfl rfl rfl rfl ?_)
  | fail
 all_goals (apply_rules (newGoals := .nonDependentOnly) only [dep]; exact ())) : p := h
theorem Zj7 {p : Prop} (h : p := by
 first
  | ((with_reducible show AWL _ _ _ _ _); first | refine' ZaD | refine' ZeA | (refine AWL.op (sl := SL) rfl rfl ?_ ?_) | refine' ZcR | refine' ZcS | refine' ZbS | refine AWL.guardU rfl rfl rfl rfl rfl rfl ?_ | refine' cl)
  | fail
 all_goals (apply_rules (newGoals := .nonDependentOnly) only [dep]; exact ())) : p := h
theorem Zst {p : Prop} (h : p := by
 first
  | ((with_reducible show AW _ _ _ _); first | ((fail_if_success (show AW _ (.region 10 _ _) _ _)); (show AW _ (.region _ _ false) _ _); refine kp ?_; refine AW.region ?_))
  | fail
 all_goals (apply_rules (newGoals := .nonDependentOnly) only [dep]; exact ())) : p := h
theorem ZiI {p : Prop} (h : p := by
 first
  | ((with_reducible show AWL _ _ _ _ _); refine AWL.lentD rfl rfl ?_; (try refine' Zsh))
  | fail
 all_goals (apply_rules (newGoals := .nonDependentOnly) only [dep]; exact ())) : p := h
theorem ZiJ {p : Prop} (h : p := by
 first
  | ((refine Zjx.mk [0, 1002, 3005] rfl rfl rfl rfl ?_ ?_ ?_ ?_; (focus (first | exact Or.inl rfl | exact Or.inr rfl)); (focus (repeat (first | exact List.forall_mem_nil _ | refine Ya5.2 ⟨rfl, ?_⟩)))) <;> (try simp (disch := omega) only [NM, Nat.reduceBEq, reduceAdd, reduceMul, Int.reduceToNat, reduceSub, List.set_cons_zero, List.set_cons_succ, Bool.or_true, Bool.false_or, Bool.true_or, nx]))
  | fail
 all_goals (apply_rules (newGoals := .nonDependentOnly) only [dep]; exact ())) : p := h
theorem Zsu {p : Prop} (h : p := by
 first
  | ((with_reducible show AW _ _ _ _); first | ((fail_if_success (show AW _ (.region 13 _ _) _ _)); (show AW _ (.region _ _ false) _ _); refine kp ?_; refine AW.region ?_))
  | fail
 all_goals (apply_rules (newGoals := .nonDependentOnly) only [dep]; exact ())) : p := h
theorem Zsv {p : Prop} (h : p := by
 first
  | ((with_reducible show AW _ _ _ _); first | ((fail_if_success (show AW _ (.region 16 _ _) _ _)); (show AW _ (.region _ _ false) _ _); refine kp ?_; refine AW.region ?_))
  | fail
 all_goals (apply_rules (newGoals := .nonDependentOnly) only [dep]; exact ())) : p := h
theorem ZsC {p : Prop} (h : p := by
 first
  | ((refine ZmB.mk (Zjx.mk [0, 3] rfl rfl rfl rfl ?_ ?_ ?_ ?_); (focus (first | exact Or.inl rfl | exact Or.inr rfl)); (focus (repeat (first | exact List.forall_mem_nil _ | refine Ya5.2 ⟨rfl, ?_⟩)))) <;> (try simp (disch := omega) only [NM, Nat.reduceBEq, reduceAdd, reduceMul, Int.reduceToNat, reduceSub, List.set_cons_zero, List.set_cons_succ, nx]))
  | fail
 all_goals (apply_rules (newGoals := .nonDependentOnly) only [dep]; exact ())) : p := h
theorem ZsD {p : Prop} (h : p := by
 first
  | ((refine ZmB.pan [0, 3] rfl rfl (by repeat (first | exact List.forall_mem_nil _ | refine Ya5.2 ⟨rfl, ?_⟩)) ?_); (try simp (disch := omega) only [NM, Nat.reduceBEq, reduceAdd, reduceMul, Int.reduceToNat, reduceSub, List.set_cons_zero, List.set_cons_succ, nx]))
  | fail
 all_goals (apply_rules (newGoals := .nonDependentOnly) only [dep]; exact ())) : p := h
theorem ZsE {p : Prop} (h : p := by
 first
  | ((with_reducible show AWL _ _ _ _ _); first | refine' ZaD | (refine AWL.op (sl := SL) rfl rfl ?_ ?_) | refine AWL.mkM rfl rfl rfl rfl ?_ | refine' cl)
  | fail
 all_goals (apply_rules (newGoals := .nonDependentOnly) only [dep]; exact ())) : p := h
theorem ZsI {p : Prop} (h : p := by
 first
  | (refine CWr.call (f := 58) rfl ?_ rfl (hc1) (fun _ _ h => h) ?_ ?_ ?_; (focus kernel_rfl))
  | fail
 all_goals (apply_rules (newGoals := .nonDependentOnly) only [dep]; exact ())) : p := h
theorem ZsJ {p : Prop} (h : p := by
 first
  | ((with_reducible show CWr _ _ _ _ _ _ _ _ _ _ _ _ _ _); first | (refine CWr.op rfl ?_ ?_ ?_) | (refine CWr.call (f := 55) rfl ?_ rfl (ht1) (fun _ _ h => h) ?_ ?_ ?_; (focus kernel_rfl)) | refine' ZsI)
  | fail
 all_goals (apply_rules (newGoals := .nonDependentOnly) only [dep]; exact ())) : p := h
theorem ZsK {p : Prop} (h : p := by
 first
  | ((with_reducible show AWL _ _ _ _ _); first | refine' ZaD | (refine AWL.op (sl := SL) rfl rfl ?_ ?_) | refine' ZcR | refine' ZcS | (refine AWL.guard2 rfl rfl rfl rfl rfl rfl ?_ ?_ <;> (intro hc; (try simp only [Bool.not_false, nx] at hc); first | (cases hc; done) | refine' ZiE)) | refine AWL.guardU rfl rfl rfl rfl rfl rfl ?_ | refine' cl)
  | fail
 all_goals (apply_rules (newGoals := .nonDependentOnly) only [dep]; exact ())) : p := h
theorem ZsL {p : Prop} (h : p := by
 first
  | ((with_reducible show CW _ _ _ _ _ _ _ _ _ _ _ _); first | (refine CW.guard2 rfl rfl rfl rfl rfl rfl rfl rfl ?_ ?_ <;> (intro hc; (try simp only [Bool.not_false, nx] at hc); first | (cases hc; done) | refine' ZiE)) | refine' Zj5 | refine CW.tail rfl ?_)
  | fail
 all_goals (apply_rules (newGoals := .nonDependentOnly) only [dep]; exact ())) : p := h
theorem Zam {p : Prop} (h : p := by
 first
  | ((refine Zjx.mk [0] rfl rfl rfl rfl ?_ ?_ ?_ ?_; (focus (first | exact Or.inl rfl | exact Or.inr rfl)); (focus (repeat (first | exact List.forall_mem_nil _ | refine Ya5.2 ⟨rfl, ?_⟩)))) <;> (try simp (disch := omega) only [NM, Nat.reduceBEq, reduceAdd, reduceMul, Int.reduceToNat, reduceSub, List.set_cons_zero, List.set_cons_succ, nx]))
  | fail
 all_goals (apply_rules (newGoals := .nonDependentOnly) only [dep]; exact ())) : p := h
theorem ZgW {p : Prop} (h : p := by
 first
  | ((with_reducible show AWL _ _ _ _ _); first | refine' ZaD | (refine AWL.op (sl := SL) rfl rfl ?_ ?_) | refine' ZbS | refine AWL.guardU rfl rfl rfl rfl rfl rfl ?_ | refine' cl)
  | fail
 all_goals (apply_rules (newGoals := .nonDependentOnly) only [dep]; exact ())) : p := h
theorem ZsH {p : Prop} (h : p := by
 first
  | (first | (refine DQ.yes rfl ?_ ?_) | (refine DQ.yesC (Zb2.call (f := 119) rfl ?_ rfl (hu) (fun _ _ h => h) (fun _ => rfl)) ?_; (focus kernel_rfl)))
  | fail
 all_goals (apply_rules (newGoals := .nonDependentOnly) only [dep]; exact ())) : p := h
theorem ZsM {p : Prop} (h : p := by
 first
  | ((with_reducible show CWr _ _ _ _ _ _ _ _ _ _ _ _ _ _); first | (refine CWr.op rfl ?_ ?_ ?_) | refine' ZsI | (refine CWr.call (f := 57) rfl ?_ rfl (hs1) (fun _ _ h => h) ?_ ?_ ?_; (focus kernel_rfl)))
  | fail
 all_goals (apply_rules (newGoals := .nonDependentOnly) only [dep]; exact ())) : p := h
theorem Znh {p : Prop} (h : p := by
 first
  | (refine DQ.guard2 rfl rfl rfl rfl rfl rfl rfl ?_ ?_ <;> (intro hc; (try simp only [Bool.not_true, Bool.not_false] at hc); first | (cases hc; done) | refine' ZiE))
  | fail
 all_goals (apply_rules (newGoals := .nonDependentOnly) only [dep]; exact ())) : p := h
theorem Zni {p : Prop} (h : p := by
 first
  | refine DQ.guardU rfl rfl rfl rfl rfl rfl rfl ?_
  | fail
 all_goals (apply_rules (newGoals := .nonDependentOnly) only [dep]; exact ())) : p := h
theorem Znj {p : Prop} (h : p := by
 first
  | ((with_reducible show DQ _ _ _ _ _ _); first | (refine DQ.op rfl rfl rfl rfl rfl ?_ ?_) | refine' ZeB | refine' Znh | refine' Zni | refine DQ.tail rfl ?_)
  | fail
 all_goals (apply_rules (newGoals := .nonDependentOnly) only [dep]; exact ())) : p := h
theorem Zcz {p : Prop} (h : p := by
 first
  | ((refine Zjx.mk [0, 1, 2000, 2001, 2002, 2003, 2004, 2005, 2006, 2008, 2009, 2010] rfl rfl rfl rfl ?_ ?_ ?_ ?_; (focus (first | exact Or.inl rfl | exact Or.inr rfl)); (focus (repeat (first | exact List.forall_mem_nil _ | refine Ya5.2 ⟨rfl, ?_⟩)))) <;> (try simp (disch := omega) only [NM, Nat.reduceBEq, reduceAdd, reduceMul, Int.reduceToNat, reduceSub, List.set_cons_zero, List.set_cons_succ, nx]))
  | fail
 all_goals (apply_rules (newGoals := .nonDependentOnly) only [dep]; exact ())) : p := h
theorem Zj9 {p : Prop} (h : p := by
 first
  | ((with_reducible show AW _ _ _ _); first | ((first | refine AW.seqQ ?_ | refine AW.blockQ ?_); intro Qn hQn))
  | fail
 all_goals (apply_rules (newGoals := .nonDependentOnly) only [dep]; exact ())) : p := h
theorem ZsG {p : Prop} (h : p := by
 first
  | (refine AWL.convSame rfl rfl rfl rfl rfl rfl (List.cons_ne_nil _ _) (by decide) rfl rfl ?_)
  | fail
 all_goals (apply_rules (newGoals := .nonDependentOnly) only [dep]; exact ())) : p := h
theorem Znf {p : Prop} (h : p := by
 first
  | ((with_reducible show AWL _ _ _ _ _); first | refine' ZaD | (refine AWL.op (sl := SL) rfl rfl ?_ ?_) | refine AWL.mkM rfl rfl rfl rfl ?_ | refine' ZsG | refine' ZbS | refine AWL.guardU rfl rfl rfl rfl rfl rfl ?_ | refine' cl)
  | fail
 all_goals (apply_rules (newGoals := .nonDependentOnly) only [dep]; exact ())) : p := h
theorem Znk {p : Prop} (h : p := by
 first
  | ((with_reducible first | show AWL _ _ _ _ _ | show AW _ _ _ _ | show DQ _ _ _ _ _ _ | show DWL _ _ _ _ _ _); (first | refine AWL.nil ?_ | refine AW.skip ?_ | refine AW.ret ?_ | refine AW.exit ?_ | refine DQ.nil ?_ | refine DWL.nil ?_); (repeat (first | refine QEq.mp (by assumption) ?_ | refine' Zew)))
  | fail
 all_goals (apply_rules (newGoals := .nonDependentOnly) only [dep]; exact ())) : p := h
theorem Znl {p : Prop} (h : p := by
 first
  | ((with_reducible show DWL _ _ _ _ _ _); first | (refine DWL.op rfl rfl rfl rfl ?_ ?_) | (refine DWL.step rfl rfl rfl (Zb2.assign rfl) ?_))
  | fail
 all_goals (apply_rules (newGoals := .nonDependentOnly) only [dep]; exact ())) : p := h
theorem ZsN {p : Prop} (h : p := by
 first
  | refine AWL.opN (sl := SLm) rfl rfl rfl trivial ?_
  | fail
 all_goals (apply_rules (newGoals := .nonDependentOnly) only [dep]; exact ())) : p := h
theorem ZsO {p : Prop} (h : p := by
 first
  | (refine AWL.boxF (t := 45) rfl rfl rfl rfl rfl ?_)
  | fail
 all_goals (apply_rules (newGoals := .nonDependentOnly) only [dep]; exact ())) : p := h
theorem ZsP {p : Prop} (h : p := by
 first
  | (refine AWL.allocF (t := 45) rfl rfl rfl rfl rfl rfl ?_)
  | fail
 all_goals (apply_rules (newGoals := .nonDependentOnly) only [dep]; exact ())) : p := h
theorem Zka {p : Prop} (h : p := by
 first
  | ((with_reducible show AWL _ _ _ _ _); first | refine' ZsN | refine' ZsO | refine' ZsP | (refine AWL.op (sl := SLm) rfl rfl ?_ ?_) | refine' ZbS | refine AWL.guardU rfl rfl rfl rfl rfl rfl ?_ | refine' cl)
  | fail
 all_goals (apply_rules (newGoals := .nonDependentOnly) only [dep]; exact ())) : p := h
theorem ZsQ {p : Prop} (h : p := by
 first
  | ((with_reducible show AWL _ _ _ _ _); first | refine' ZsN | refine' ZsO | refine' ZsP | (refine AWL.op (sl := SLm) rfl rfl ?_ ?_) | (refine AWL.guard2 rfl rfl rfl rfl rfl rfl ?_ ?_ <;> (intro hc; (try simp only [Bool.not_true, Bool.not_false] at hc); first | (cases hc; done) | ((try simp only [nx]); (try simp only [HCX] at hc); (try (exfalso; omega)); (try (guard_hyp hc : True; clear hc))))) | refine AWL.guardU rfl rfl rfl rfl rfl rfl ?_ | refine' cl)
  | fail
 all_goals (apply_rules (newGoals := .nonDependentOnly) only [dep]; exact ())) : p := h
theorem ZcT {p : Prop} (h : p := by
 first
  | ((try simp (disch := omega) only [NM, Nat.reduceBEq, reduceAdd, reduceMul, Int.reduceToNat, reduceSub, List.set_cons_zero, List.set_cons_succ, nx]); (repeat' (first | exact trivial | exact rfl | exact ⟨_, _, rfl⟩ | exact ⟨_, rfl⟩ | exact Yaa rfl | exact Nat.zero_lt_succ _ | omega | (simp only [Yal]; omega) | (simp only [Za] at *; omega) | refine And.intro ?_ ?_ | fail)); done)
  | fail
 all_goals (apply_rules (newGoals := .nonDependentOnly) only [dep]; exact ())) : p := h
theorem ZaZ {p : Prop} (h : p := by
 first
  | ((first | refine Zic i3 _ _ ?_ | refine Zic i5 _ _ ?_ | refine Zid i3 _ _ ?_ | refine Zid i5 _ _ ?_); first | assumption | omega | (simp only [Yal]; omega))
  | fail
 all_goals (apply_rules (newGoals := .nonDependentOnly) only [dep]; exact ())) : p := h
theorem Z9 {p : Prop} (h : p := by
 first
  | ((repeat' (first | exact trivial | exact rfl | exact Yaa rfl | refine And.intro ?_ ?_ | fail)); done)
  | fail
 all_goals (apply_rules (newGoals := .nonDependentOnly) only [dep]; exact ())) : p := h
theorem Zbh {p : Prop} (h : p := by
 first
  | (refine And.intro (by kernel_rfl) (And.intro ⟨_, (by first | exact nums_ints _ _ | rfl), (by first | exact nums_ints _ _ | rfl)⟩ (And.intro ?_ ?_)) <;> (first | rfl | assumption | (simp only [Za]; omega) | omega))
  | fail
 all_goals (apply_rules (newGoals := .nonDependentOnly) only [dep]; exact ())) : p := h
theorem Zan {p : Prop} (h : p := by
 first
  | (simp only [Yar, Yaw, Yal, Yag, List.length_nil]; omega)
  | fail
 all_goals (apply_rules (newGoals := .nonDependentOnly) only [dep]; exact ())) : p := h
theorem ZcU {p : Prop} (h : p := by
 first
  | ((first | refine Zic i3 _ _ ?_ | refine Zic i48 _ _ ?_ | refine Zic i5 _ _ ?_ | refine Zid i3 _ _ ?_ | refine Zid i48 _ _ ?_ | refine Zid i5 _ _ ?_); first | assumption | omega | (simp only [Yal]; omega))
  | fail
 all_goals (apply_rules (newGoals := .nonDependentOnly) only [dep]; exact ())) : p := h
theorem ZcV {p : Prop} (h : p := by
 first
  | ((show ZmA _ _ _ _ _ _); (repeat' (first | exact trivial | exact Or.inr (Or.inl rfl) | exact Or.inl rfl | exact Or.inr (Or.inr rfl) | refine And.intro ?_ ?_)); done)
  | fail
 all_goals (apply_rules (newGoals := .nonDependentOnly) only [dep]; exact ())) : p := h
theorem Zbi {p : Prop} (h : p := by
 first
  | (refine And.intro ?_ (And.intro ?_ ?_); (focus kernel_rfl); (focus kernel_rfl); (focus kernel_rfl))
  | fail
 all_goals (apply_rules (newGoals := .nonDependentOnly) only [dep]; exact ())) : p := h
theorem ZeC {p : Prop} (h : p := by
 first
  | ((show AWL _ _ ({ dst := _, op := _, type := _, pos := _, after := _, guard := none } :: _) _ _); refine AWL.frzA rfl rfl ?_)
  | fail
 all_goals (apply_rules (newGoals := .nonDependentOnly) only [dep]; exact ())) : p := h
theorem Zke {p : Prop} (h : p := by
 first
  | ((first | rw [ZEn] | rw [s2] | rw [s19] | rw [s3] | rw [s35] | rw [s52] | rw [s4] | rw [s68]); exact ⟨by decide, by decide⟩)
  | fail
 all_goals (apply_rules (newGoals := .nonDependentOnly) only [dep]; exact ())) : p := h
theorem ZgX {p : Prop} (h : p := by
 first
  | (simp only [Za, ZyV] at *; omega)
  | fail
 all_goals (apply_rules (newGoals := .nonDependentOnly) only [dep]; exact ())) : p := h
theorem ZyN {p : Prop} (h : p := by
 first
  | ((try simp (disch := omega) only [NM, Nat.reduceBEq, reduceAdd, reduceMul, Int.reduceToNat, reduceSub, List.set_cons_zero, List.set_cons_succ, nx]); (repeat' (first | exact trivial | exact rfl | exact ⟨_, _, rfl⟩ | exact ⟨_, rfl⟩ | exact Yaa rfl | exact Nat.zero_lt_succ _ | omega | refine' ZgX | refine And.intro ?_ ?_ | fail)); done)
  | fail
 all_goals (apply_rules (newGoals := .nonDependentOnly) only [dep]; exact ())) : p := h
theorem Znm {p : Prop} (h : p := by
 first
  | (rintro _ _ ⟨rfl, rfl⟩; (try refine And.intro rfl ?_) ; (try refine And.intro ⟨ZlN rfl, (by repeat' (first | exact ZrQ | refine nvm_cons ?_ ?_ | exact nv_nums _ _ | exact nv_all rfl))⟩ ?_))
  | fail
 all_goals (apply_rules (newGoals := .nonDependentOnly) only [dep]; exact ())) : p := h
theorem Zkb {p : Prop} (h : p := by
 first
  | (repeat' (first | exact Z2 | exact Zx | refine Zbo ?_ | refine Zat ?_ | refine QEq.pan (by assumption) ?_))
  | fail
 all_goals (apply_rules (newGoals := .nonDependentOnly) only [dep]; exact ())) : p := h
theorem Zkc {p : Prop} (h : p := by
 first
  | (refine AWL.callV (f := 145) rfl rfl rfl rfl ?_ (Yaa rfl) rfl (Ztk xs hb hlen _ _ _) ?_; (focus kernel_rfl))
  | fail
 all_goals (apply_rules (newGoals := .nonDependentOnly) only [dep]; exact ())) : p := h
theorem ZsR {p : Prop} (h : p := by
 first
  | ((try simp only [hc]); (try simp only [beq_iff_eq, bne_iff_ne, Yaz, decide_eq_false_iff_not, Yam, bne_eq_false_iff_eq, ne_eq, Bool.not_eq_true, Bool.not_eq_false, Bool.not_eq_eq_eq_not, Bool.not_true, Bool.not_false, Decidable.not_not, Int.not_lt, Int.not_le] at hc); (try (exfalso; omega)); (try (guard_hyp hc : True; clear hc)))
  | fail
 all_goals (apply_rules (newGoals := .nonDependentOnly) only [dep]; exact ())) : p := h
theorem Zkd {p : Prop} (h : p := by
 first
  | (refine AWL.call (f := 145) rfl rfl rfl ?_ rfl (Yaa rfl) rfl (Ztk xs hb hlen _ _ _) ?_; (focus kernel_rfl))
  | fail
 all_goals (apply_rules (newGoals := .nonDependentOnly) only [dep]; exact ())) : p := h
theorem ZfJ {p : Prop} (h : p := by
 first
  | (simp only [Za, Zo] at *; omega)
  | fail
 all_goals (apply_rules (newGoals := .nonDependentOnly) only [dep]; exact ())) : p := h
theorem ZiK {p : Prop} (h : p := by
 first
  | (with_reducible show CW _ _ _ _ _ _ _ _ _ _ _ (St.put _ _ _))
  | fail
 all_goals (apply_rules (newGoals := .nonDependentOnly) only [dep]; exact ())) : p := h
theorem ZeD {p : Prop} (h : p := by
 first
  | (refine AWL.boxF (t := 185) rfl rfl rfl rfl rfl ?_)
  | fail
 all_goals (apply_rules (newGoals := .nonDependentOnly) only [dep]; exact ())) : p := h
theorem ZsS {p : Prop} (h : p := by
 first
  | (refine DQ.step rfl rfl rfl rfl (Zb2.call (f := 119) rfl ?_ rfl (hu) (fun _ _ h => h) (fun _ => rfl)) ?_; (focus kernel_rfl))
  | fail
 all_goals (apply_rules (newGoals := .nonDependentOnly) only [dep]; exact ())) : p := h
theorem ZsT {p : Prop} (h : p := by
 first
  | ((fail_if_success (show AW _ (.region 32 _ _) _ _)); (show AW _ (.region _ _ false) _ _); refine kp ?_; refine AW.region ?_)
  | fail
 all_goals (apply_rules (newGoals := .nonDependentOnly) only [dep]; exact ())) : p := h
theorem ZiO {p : Prop} (h : p := by
 first
  | (refine CWr.call (f := 114) rfl ?_ rfl (w0) (fun _ _ h => h) ?_ ?_ ?_; (focus kernel_rfl))
  | fail
 all_goals (apply_rules (newGoals := .nonDependentOnly) only [dep]; exact ())) : p := h
theorem Zkf {p : Prop} (h : p := by
 first
  | (refine CWr.call (f := 114) rfl ?_ rfl (w1) (fun _ _ h => h) ?_ ?_ ?_; (focus kernel_rfl))
  | fail
 all_goals (apply_rules (newGoals := .nonDependentOnly) only [dep]; exact ())) : p := h
theorem Zkg {p : Prop} (h : p := by
 first
  | (refine CWr.call (f := 114) rfl ?_ rfl (w2) (fun _ _ h => h) ?_ ?_ ?_; (focus kernel_rfl))
  | fail
 all_goals (apply_rules (newGoals := .nonDependentOnly) only [dep]; exact ())) : p := h
theorem Znr {p : Prop} (h : p := by
 first
  | (refine CWr.call (f := 114) rfl ?_ rfl (w3) (fun _ _ h => h) ?_ ?_ ?_; (focus kernel_rfl))
  | fail
 all_goals (apply_rules (newGoals := .nonDependentOnly) only [dep]; exact ())) : p := h
theorem Znt {p : Prop} (h : p := by
 first
  | (simp only [Yar, Yaw, Yal, nx]; omega)
  | fail
 all_goals (apply_rules (newGoals := .nonDependentOnly) only [dep]; exact ())) : p := h
theorem Znv {p : Prop} (h : p := by
 first
  | (refine AWL.mkI rfl rfl rfl rfl rfl rfl (by kernel_rfl) ?_)
  | fail
 all_goals (apply_rules (newGoals := .nonDependentOnly) only [dep]; exact ())) : p := h
theorem ZsU {p : Prop} (h : p := by
 first
  | refine CW.guard2 rfl rfl rfl rfl rfl rfl rfl rfl ?_ ?_
  | fail
 all_goals (apply_rules (newGoals := .nonDependentOnly) only [dep]; exact ())) : p := h
theorem ZsV {p : Prop} (h : p := by
 first
  | ((show AW _ (.region _ _ true) _ _); refine AW.calm false [] [] ZfU (by (repeat' (first | exact Z2 | exact Zx | refine Zbo ?_ | refine Zat ?_ | refine QEq.pan (by assumption) ?_))) ?_ rfl ?_; (focus (as_aux_lemma => kernel_rfl)))
  | fail
 all_goals (apply_rules (newGoals := .nonDependentOnly) only [dep]; exact ())) : p := h
theorem ZsW {p : Prop} (h : p := by
 first
  | refine AWL.guard2 rfl rfl rfl rfl rfl rfl ?_ ?_
  | fail
 all_goals (apply_rules (newGoals := .nonDependentOnly) only [dep]; exact ())) : p := h
theorem ZFL {p : Prop} (h : p := by first
 | (focus ((first | exact trivial | omega | assumption | refine' ZcU | (show _ <= _; omega) | refine' Zan | refine' Z9 | refine' ZyN); done))
 | fail) : p := h
theorem ZFM {p : Prop} (h : p := by first
 | (focus ((first | exact trivial | omega | refine' Zbh | refine' Zbi | assumption | refine' ZaZ | (show _ <= _; omega) | refine' Zan | refine' Z9 | ((try simp (disch := omega) only [NSX, St.keepS, Nat.reduceBEq, Nat.reduceAdd, Nat.reduceMul, Int.reduceToNat, Nat.reduceSub, TY, List.set_cons_zero, List.set_cons_succ, SLS, Za, Zag, Zo, nx]); (repeat' (first | exact trivial | exact rfl | exact ⟨_, _, rfl⟩ | exact ⟨_, rfl⟩ | exact Yaa rfl | exact Nat.zero_lt_succ _ | omega | refine' ZfJ | refine And.intro ?_ ?_ | fail)); done)); done))
 | fail) : p := h
theorem ZoM {p : Prop} (h : p := by first
 | (focus ((first | exact trivial | omega | assumption | refine' ZaZ | (show _ <= _; omega) | refine' Zan | refine' Z9 | refine' ZcT); done))
 | fail) : p := h
theorem ZFN {p : Prop} (h : p := by first
 | (focus ((first | exact trivial | omega | assumption | refine' ZaZ | (simp only [ZEo, ZpQ]; omega) | (show _ <= _; omega) | refine' Zan | refine' Z9 | refine' ZcT); done))
 | fail) : p := h
theorem Zvj {p : Prop} (h : p := by first
 | (focus ((first | exact trivial | omega | refine' Zbh | refine' Zbi | ((show Zc4 _ _ _ = true); kernel_rfl) | refine' ZcV | assumption | refine' ZaZ | (show _ <= _; omega) | refine' Zan | refine' Z9 | ((try simp (disch := omega) only [NSX, Nat.reduceBEq, Nat.reduceAdd, Nat.reduceMul, Int.reduceToNat, Nat.reduceSub, TY, List.set_cons_zero, List.set_cons_succ, SLS, Za, Zag, Zo, nx]); (repeat' (first | exact trivial | exact rfl | exact ⟨_, _, rfl⟩ | exact ⟨_, rfl⟩ | exact Yaa rfl | exact Nat.zero_lt_succ _ | omega | refine' ZfJ | refine And.intro ?_ ?_ | fail)); done)); done))
 | fail) : p := h
theorem Zvk {p : Prop} (h : p := by first
 | (focus ((first | exact trivial | omega | assumption | refine' ZaZ | (show _ ≠ _; decide) | (show _ <= _; omega) | refine' Zan | refine' Z9 | refine' ZcT); done))
 | fail) : p := h
theorem Zvl {p : Prop} (h : p := by first
 | (focus ((first | exact trivial | omega | assumption | refine' ZaZ | (show _ <= _; omega) | refine' Zan | refine' Z9 | ((try simp (disch := omega) only [NM, Nat.reduceBEq, reduceAdd, reduceMul, Int.reduceToNat, reduceSub, List.set_cons_zero, List.set_cons_succ, Bool.or_true, Bool.false_or, Bool.true_or, nx]); (repeat' (first | exact trivial | exact rfl | exact ⟨_, _, rfl⟩ | exact ⟨_, rfl⟩ | exact Yaa rfl | exact Nat.zero_lt_succ _ | omega | (simp only [Yal]; omega) | (simp only [Za] at *; omega) | refine And.intro ?_ ?_ | fail)); done)); done))
 | fail) : p := h
theorem Zvm {p : Prop} (h : p := by first
 | (focus ((first | exact trivial | omega | ((show Zc4 _ _ _ = true); kernel_rfl) | refine' ZcV | assumption | refine' ZcU | (show _ <= _; omega) | refine' Zan | refine' Z9 | refine' ZyN); done))
 | fail) : p := h
theorem ZFO {p : Prop} (h : p := by first
 | (focus ((first | exact trivial | omega | assumption | refine' ZaZ | exact ZtS hby | (show _ <= _; omega) | refine' Zan | refine' Z9 | refine' ZcT); done))
 | fail) : p := h
theorem Zvn {p : Prop} (h : p := by first
 | (focus ((first | exact trivial | omega | refine' Zbh | refine' Zbi | ((show Zc4 _ _ _ = true); kernel_rfl) | refine' ZcV | assumption | refine' ZaZ | exact ⟨hdl, _, hld⟩ | exact Or.inl rfl | exact Or.inr rfl | (simp only [Yar, Yaw]; omega) | (show _ <= _; omega) | refine' Zan | refine' Z9 | ((try simp (disch := omega) only [NSX, St.keepS, Nat.reduceBEq, Nat.reduceAdd, Nat.reduceMul, Int.reduceToNat, Nat.reduceSub, TY, List.set_cons_zero, List.set_cons_succ, SLS, Za, Zag, Zo, R5, R8, Zqd, nx]); (repeat' (first | exact trivial | exact rfl | exact ⟨_, _, rfl⟩ | exact ⟨_, rfl⟩ | exact Yaa rfl | exact Nat.zero_lt_succ _ | omega | refine' ZfJ | refine And.intro ?_ ?_ | fail)); done)); done))
 | fail) : p := h
theorem Zvo {p : Prop} (h : p := by first
 | (focus ((first | exact trivial | omega | refine' Zbh | refine' Zbi | ((show Zc4 _ _ _ = true); kernel_rfl) | refine' ZcV | assumption | refine' ZcU | (show _ <= _; omega) | refine' Zan | refine' Z9 | ((try simp (disch := omega) only [NSX, St.keepS, Nat.reduceBEq, Nat.reduceAdd, Nat.reduceMul, Int.reduceToNat, Nat.reduceSub, TY, SLS, List.set_cons_zero, List.set_cons_succ, Zas, Za5, dz, Za, nx]); (repeat' (first | exact trivial | exact rfl | exact ⟨_, _, rfl⟩ | exact ⟨_, rfl⟩ | exact Yaa rfl | exact Nat.zero_lt_succ _ | omega | refine' ZgX | refine And.intro ?_ ?_ | fail)); done)); done))
 | fail) : p := h
theorem ZFP {p : Prop} (h : p := by first
 | (focus ((first | exact trivial | omega | assumption | refine' ZaZ | (simp only [ZFh, ZpQ]; omega) | (show _ <= _; omega) | refine' Zan | refine' Z9 | refine' ZcT); done))
 | fail) : p := h
theorem Zvp {p : Prop} (h : p := by first
 | (focus ((first | exact trivial | omega | refine' Zbh | refine' Zbi | assumption | refine' ZcU | (show _ <= _; omega) | refine' Zan | refine' Z9 | ((try simp (disch := omega) only [NSX, St.keepS, Nat.reduceBEq, Nat.reduceAdd, Nat.reduceMul, Int.reduceToNat, Nat.reduceSub, TY, SLS, List.set_cons_zero, List.set_cons_succ, Za, S14, nx]); (repeat' (first | exact trivial | exact rfl | exact ⟨_, _, rfl⟩ | exact ⟨_, rfl⟩ | exact Yaa rfl | exact Nat.zero_lt_succ _ | omega | (simp only [Za] at *; omega) | exact ld_lt (by omega) | exact ld_ex (by omega) | refine And.intro ?_ ?_ | fail)); done)); done))
 | fail) : p := h
theorem ZFQ {p : Prop} (h : p := by first
 | (focus ((first | exact trivial | omega | assumption | refine' ZaZ | (simp only [ZFi, ZpQ]; omega) | (show _ <= _; omega) | refine' Zan | refine' Z9 | refine' ZcT); done))
 | fail) : p := h
theorem ZFX {p : Prop} (h : p := by first
 | (focus ((first | exact trivial | omega | refine' Zbh | refine' Zbi | ((show Zc4 _ _ _ = true); kernel_rfl) | refine' ZcV | assumption | refine' ZaZ | exact dl | refine' Zke | (show _ <= _; omega) | refine' Znt | refine' Z9 | refine' ZcT); done))
 | fail) : p := h
theorem Zvq {p : Prop} (h : p := by first
 | (focus ((first | exact trivial | omega | refine' Zbh | refine' Zbi | assumption | refine' ZaZ | (show _ <= _; omega) | refine' Zan | refine' Z9 | ((try simp (disch := omega) only [NSX, St.keepS, Nat.reduceBEq, Nat.reduceAdd, Nat.reduceMul, Int.reduceToNat, Nat.reduceSub, TY, List.set_cons_zero, List.set_cons_succ, SLS, Za, Zag, Zo, N6, nx]); (repeat' (first | exact trivial | exact rfl | exact ⟨_, _, rfl⟩ | exact ⟨_, rfl⟩ | exact Yaa rfl | exact Nat.zero_lt_succ _ | omega | refine' ZfJ | refine And.intro ?_ ?_ | fail)); done)); done))
 | fail) : p := h
theorem Zvr {p : Prop} (h : p := by first
 | (focus ((first | exact trivial | omega | refine' Zbh | refine' Zbi | ((show Zc4 _ _ _ = true); kernel_rfl) | refine' ZcV | assumption | refine' ZaZ | (show _ <= _; omega) | refine' Zan | refine' Z9 | ((try simp (disch := omega) only [NSX, Nat.reduceBEq, Nat.reduceAdd, Nat.reduceMul, Int.reduceToNat, Nat.reduceSub, TY, List.set_cons_zero, List.set_cons_succ, SLS, Za, Zag, Zo, O5, O11, nx]); (repeat' (first | exact trivial | exact rfl | exact ⟨_, _, rfl⟩ | exact ⟨_, rfl⟩ | exact Yaa rfl | exact Nat.zero_lt_succ _ | omega | refine' ZfJ | refine And.intro ?_ ?_ | fail)); done)); done))
 | fail) : p := h
theorem Zvs {p : Prop} (h : p := by first
 | (focus ((first | exact trivial | omega | ((show Zc4 _ _ _ = true); kernel_rfl) | refine' ZcV | assumption | refine' ZaZ | (simp only [Zqm, ZpQ]; omega) | (show _ <= _; omega) | refine' Zan | refine' Z9 | refine' ZcT); done))
 | fail) : p := h
theorem Zvt {p : Prop} (h : p := by first
 | (focus ((first | exact trivial | omega | ((show Zc4 _ _ _ = true); kernel_rfl) | refine' ZcV | assumption | refine' ZaZ | exact dl | refine' Zke | (show _ <= _; omega) | refine' Zan | refine' Z9 | refine' ZcT); done))
 | fail) : p := h
theorem ZFR {p : Prop} (h : p := by first
 | (focus ((first | exact trivial | omega | ((show Zc4 _ _ _ = true); kernel_rfl) | refine' ZcV | assumption | refine' ZaZ | (show _ <= _; omega) | refine' Zan | refine' Z9 | refine' ZcT); done))
 | fail) : p := h
theorem Zvu {p : Prop} (h : p := by first
 | (focus ((first | exact trivial | omega | ((show Zc4 _ _ _ = true); kernel_rfl) | refine' ZcV | assumption | refine' ZaZ | exact ZtS hby | (show _ <= _; omega) | refine' Zan | refine' Z9 | refine' ZcT); done))
 | fail) : p := h
theorem Zvv {p : Prop} (h : p := by first
 | (focus ((first | exact trivial | omega | assumption | refine' ZaZ | (show _ <= _; omega) | (simp only [Yar, Yaw, Yal, Yag, nx]; omega) | refine' Z9 | refine' ZcT); done))
 | fail) : p := h
theorem Zvw {p : Prop} (h : p := by first
 | (focus ((first | exact trivial | omega | refine' Zbh | refine' Zbi | assumption | refine' ZcU | (show _ <= _; omega) | refine' Zan | refine' Z9 | ((try simp (disch := omega) only [NSX, St.keepS, Nat.reduceBEq, Nat.reduceAdd, Nat.reduceMul, Int.reduceToNat, Nat.reduceSub, TY, SLS, List.set_cons_zero, List.set_cons_succ, Zas, Za5, dz, Za, S33, nx]); (repeat' (first | exact trivial | exact rfl | exact ⟨_, _, rfl⟩ | exact ⟨_, rfl⟩ | exact Yaa rfl | exact Nat.zero_lt_succ _ | omega | refine' ZgX | refine And.intro ?_ ?_ | fail)); done)); done))
 | fail) : p := h
theorem Zvx {p : Prop} (h : p := by first
 | (focus ((first | exact trivial | omega | ((show Zc4 _ _ _ = true); kernel_rfl) | refine' ZcV | assumption | refine' ZaZ | exact dl | refine' Zke | (show _ <= _; omega) | (simp only [Yar, Yaw, Yal, List.length_nil, nx]; omega) | refine' Z9 | refine' ZcT); done))
 | fail) : p := h
theorem Zvy {p : Prop} (h : p := by first
 | (focus ((first | exact trivial | omega | assumption | refine' ZaZ | (simp only [Zqm, ZpQ]; omega) | (show _ <= _; omega) | refine' Zan | refine' Z9 | refine' ZcT); done))
 | fail) : p := h
theorem Zvz {p : Prop} (h : p := by first
 | (focus ((first | exact trivial | omega | refine' Zbh | refine' Zbi | assumption | refine' ZcU | (show _ <= _; omega) | refine' Zan | refine' Z9 | ((try simp (disch := omega) only [NSX, St.keepS, Nat.reduceBEq, Nat.reduceAdd, Nat.reduceMul, Int.reduceToNat, Nat.reduceSub, TY, SLS, List.set_cons_zero, List.set_cons_succ, Za, S12, Yap, nx]); (repeat' (first | exact trivial | exact rfl | exact ⟨_, _, rfl⟩ | exact ⟨_, rfl⟩ | exact Yaa rfl | exact Nat.zero_lt_succ _ | omega | (simp only [Za] at *; omega) | exact ld_lt (by omega) | exact ld_ex (by omega) | refine And.intro ?_ ?_ | fail)); done)); done))
 | fail) : p := h
theorem ZFS {p : Prop} (h : p := by first
 | (focus ((first | exact trivial | omega | refine' Zbh | refine' Zbi | ((show Zc4 _ _ _ = true); kernel_rfl) | refine' ZcV | assumption | refine' ZaZ | (show _ <= _; omega) | refine' Zan | refine' Z9 | refine' ZcT); done))
 | fail) : p := h
theorem ZvA {p : Prop} (h : p := by first
 | (focus ((first | exact trivial | omega | assumption | refine' ZaZ | exact dl | refine' Zke | (show _ <= _; omega) | refine' Zan | refine' Z9 | refine' ZcT); done))
 | fail) : p := h
theorem ZFT {p : Prop} (h : p := by first
 | (focus ((first | exact trivial | omega | assumption | refine' ZcU | (show _ <= _; omega) | refine' Zan | refine' Z9 | ((try simp (disch := omega) only [NM, Nat.reduceBEq, reduceAdd, reduceMul, Int.reduceToNat, reduceSub, List.set_cons_zero, List.set_cons_succ, nx]); (repeat' (first | exact trivial | exact rfl | exact ⟨_, _, rfl⟩ | exact ⟨_, rfl⟩ | exact Yaa rfl | exact Nat.zero_lt_succ _ | omega | (simp only [Za] at *; omega) | refine And.intro ?_ ?_ | fail)); done)); done))
 | fail) : p := h
theorem ZvB {p : Prop} (h : p := by first
 | (focus ((first | exact trivial | omega | ((show Zc4 _ _ _ = true); kernel_rfl) | refine' ZcV | assumption | refine' ZaZ | exact dl | refine' Zke | (show _ <= _; omega) | refine' Znt | refine' Z9 | refine' ZcT); done))
 | fail) : p := h
theorem ZFU {p : Prop} (h : p := by first
 | (focus ((first | exact trivial | omega | refine' Zbh | refine' Zbi | assumption | refine' ZaZ | (show _ <= _; omega) | refine' Zan | refine' Z9 | refine' ZcT); done))
 | fail) : p := h
theorem ZvC {p : Prop} (h : p := by first
 | (focus ((first | exact trivial | omega | refine' Zbh | refine' Zbi | ((show Zc4 _ _ _ = true); kernel_rfl) | refine' ZcV | assumption | refine' ZcU | assumption | (show _ <= _; omega) | refine' Zan | refine' Z9 | ((try simp (disch := omega) only [NSX, St.keepS, Nat.reduceBEq, Nat.reduceAdd, Nat.reduceMul, Int.reduceToNat, Nat.reduceSub, TY, SLS, List.set_cons_zero, List.set_cons_succ, Za, S20, T20, nx]); (repeat' (first | exact trivial | exact rfl | exact ⟨_, _, rfl⟩ | exact ⟨_, rfl⟩ | exact Yaa rfl | exact Nat.zero_lt_succ _ | omega | (simp only [Za] at *; omega) | exact ld_lt (by omega) | exact ld_ex (by omega) | refine And.intro ?_ ?_ | fail)); done)); done))
 | fail) : p := h
theorem ZvD {p : Prop} (h : p := by first
 | (focus ((first | exact trivial | omega | refine' Zbh | refine' Zbi | assumption | refine' ZaZ | (show _ <= _; omega) | refine' Zan | refine' Z9 | ((try simp (disch := omega) only [NSX, St.keepS, Nat.reduceBEq, Nat.reduceAdd, Nat.reduceMul, Int.reduceToNat, Nat.reduceSub, TY, List.set_cons_zero, List.set_cons_succ, SLS, Za, Zag, Zo, Y4, nx]); (repeat' (first | exact trivial | exact rfl | exact ⟨_, _, rfl⟩ | exact ⟨_, rfl⟩ | exact Yaa rfl | exact Nat.zero_lt_succ _ | omega | refine' ZfJ | refine And.intro ?_ ?_ | fail)); done)); done))
 | fail) : p := h
theorem ZvE {p : Prop} (h : p := by first
 | (focus ((first | exact trivial | omega | refine' Zbh | refine' Zbi | assumption | refine' ZcU | (show _ <= _; omega) | refine' Zan | refine' Z9 | ((try simp (disch := omega) only [NSX, St.keepS, Nat.reduceBEq, Nat.reduceAdd, Nat.reduceMul, Int.reduceToNat, Nat.reduceSub, TY, SLS, List.set_cons_zero, List.set_cons_succ, Za, S14, Yap, nx]); (repeat' (first | exact trivial | exact rfl | exact ⟨_, _, rfl⟩ | exact ⟨_, rfl⟩ | exact Yaa rfl | exact Nat.zero_lt_succ _ | omega | (simp only [Za] at *; omega) | exact ld_lt (by omega) | exact ld_ex (by omega) | refine And.intro ?_ ?_ | fail)); done)); done))
 | fail) : p := h
theorem ZvF {p : Prop} (h : p := by first
 | (focus ((first | exact trivial | omega | refine' Zbh | refine' Zbi | assumption | refine' ZaZ | (simp only [ZC7, ZpQ]; omega) | (show _ <= _; omega) | refine' Zan | refine' Z9 | ((try simp (disch := omega) only [NSX, St.keepS, Nat.reduceBEq, Nat.reduceAdd, Nat.reduceMul, Int.reduceToNat, Nat.reduceSub, TY, List.set_cons_zero, List.set_cons_succ, SLS, Za, Zag, Zo, W4, ZeI, nx]); (repeat' (first | exact trivial | exact rfl | exact ⟨_, _, rfl⟩ | exact ⟨_, rfl⟩ | exact Yaa rfl | exact Nat.zero_lt_succ _ | omega | refine' ZfJ | refine And.intro ?_ ?_ | fail)); done)); done))
 | fail) : p := h
theorem ZFV {p : Prop} (h : p := by first
 | (focus ((first | exact trivial | omega | assumption | refine' ZaZ | (simp only [ZFg, ZpQ]; omega) | (show _ <= _; omega) | refine' Zan | refine' Z9 | refine' ZcT); done))
 | fail) : p := h
theorem ZvG {p : Prop} (h : p := by first
 | (focus ((first | exact trivial | omega | refine' Zbh | refine' Zbi | assumption | refine' ZcU | (show _ <= _; omega) | refine' Zan | refine' Z9 | ((try simp (disch := omega) only [NSX, St.keepS, Nat.reduceBEq, Nat.reduceAdd, Nat.reduceMul, Int.reduceToNat, Nat.reduceSub, TY, SLS, List.set_cons_zero, List.set_cons_succ, Za, S12, nx]); (repeat' (first | exact trivial | exact rfl | exact ⟨_, _, rfl⟩ | exact ⟨_, rfl⟩ | exact Yaa rfl | exact Nat.zero_lt_succ _ | omega | (simp only [Za] at *; omega) | exact ld_lt (by omega) | exact ld_ex (by omega) | refine And.intro ?_ ?_ | fail)); done)); done))
 | fail) : p := h
theorem Ze5 {p : Prop} (h : p := by
 repeat' (first
  | refine' Zf
  | refine' Zm
  | refine' Zk
  | ((first
    | refine' Zj7
    | refine' Zt) <;> (try refine' ZfG))
  | refine' Ze
  | ((with_reducible show True); exact trivial)
  | refine' ZiF
  | exact sd
  | fail)
 all_goals (try clear nx)
 all_goals (apply_rules (newGoals := .nonDependentOnly) only [dep]; exact ())) : p := h
theorem ZvH {p : Prop} (h : p := by
 repeat' (first
  | refine' Zf
  | refine' Zm
  | refine' Zk
  | ((first
    | refine' Zaq
    | refine' ZsF) <;> (try refine' Zy))
  | refine' Ze
  | ((with_reducible show True); exact trivial)
  | refine' Zam
  | refine' Zcz
  | exact sd
  | fail)
 all_goals (try clear nx)
 all_goals (apply_rules (newGoals := .nonDependentOnly) only [dep]; exact ())) : p := h
theorem ZvI {p : Prop} (h : p := by
 repeat' (first
  | refine' Zj9
  | refine' Zm
  | refine' Zdm
  | ((first
    | refine' Znf
    | refine' Zj8
    | refine' Zdn
    | (first | (refine DQ.yes rfl ?_ ?_))) <;> (try refine' Zy))
  | refine' Ze
  | ((with_reducible show True); exact trivial)
  | fail
  | refine' Zby
  | exact sd
  | fail)
 all_goals (try clear nx)
 all_goals (apply_rules (newGoals := .nonDependentOnly) only [dep]; exact ())) : p := h
theorem ZoN {p : Prop} (h : p := by
 repeat' (first
  | ((with_reducible show AWL _ _ _ _ _); first
      | (refine AWL.opN (sl := SL) rfl rfl rfl trivial ?_; (try refine' Zix))
      | refine' Zbd
      | ((first | (refine AWL.op (sl := SL) rfl rfl ?_ ?_) | refine' ZeC | refine' Zkc | refine' Zkd) <;> (try ((first | show AWL _ _ _ _ _ | show AW _ _ _ _ | show DQ _ _ _ _ _ _ | refine' Zap); (try refine' Zix))))
      | (refine AWL.guard2 rfl rfl rfl rfl rfl rfl ?_ ?_ <;> (intro hc; (try simp only [Bool.not_true, Bool.not_false] at hc); first | (cases hc; done) | refine' Zez) <;> (try (first | refine' Zdk); (try refine' Zix)))
      | refine' Zcy
      | (refine AWL.guardU rfl rfl rfl rfl rfl rfl ?_; (try refine' Zix)))
  | ((with_reducible show True); first
      | exact trivial)
  | ((with_reducible show AW _ _ _ _); first
      | refine' Zbe
      | refine' Zbf
      | ((show AW _ (.region _ _ false) _ _); refine kp ?_; (try refine' Zix); refine AW.region ?_)
      | refine' Zbg
      | (refine AW.cond rfl (fun hc => ?_) (fun hc => ?_) <;> first | (cases hc; done) | refine' ZbK))
  | ((refine Zdi.mk rfl rfl rfl ?_ ?_ ?_; (focus (first | exact Or.inl rfl | exact Or.inr rfl))) <;> (try simp (disch := omega) only [NSX, St.keepS, Nat.reduceBEq, Nat.reduceAdd, Nat.reduceMul, Int.reduceToNat, Nat.reduceSub, TY, SLS, List.set_cons_zero, List.set_cons_succ, Za, S12, Yap, nx]))
  | exact sd
  | fail)
 all_goals (try clear nx)
 all_goals (apply_rules (newGoals := .nonDependentOnly) only [dep]; exact ())) : p := h
theorem ZcF {p : Prop} (h : p := by
 repeat' (first
  | refine' Zbz
  | refine' Zf
  | refine' Zm
  | refine' Znk
  | ((first
    | refine' Zka
    | refine' Znj
    | refine' Znl
    | ((with_reducible show AW _ _ _ _); first | refine' Zex | ((show AW _ (.region 28 _ true) _ _); refine kp ?_; refine AW.drawK (l1 := ?l1) (l2 := ?l2) 10 ZfU ?hck ?h1 ?h2 ?_; (case hck => kernel_rfl); (case h1 => ((simp only [List.take_succ_cons, List.take_zero]) <;> exact rfl)); (case h2 => ((simp only [List.drop_succ_cons, List.drop_zero]) <;> exact rfl))) | refine' Znc)
    | (first | (refine DQ.yes rfl ?_ ?_))) <;> (try refine' Zev))
  | refine' Ze
  | ((with_reducible show True); exact trivial)
  | refine' Zam
  | exact sd
  | fail)
 all_goals (try clear nx)
 all_goals (apply_rules (newGoals := .nonDependentOnly) only [dep]; exact ())) : p := h
theorem ZbG {p : Prop} (h : p := by
 repeat' (first
  | refine' Zf
  | refine' ZiI
  | refine' Zk
  | ((first
    | refine' ZbT
    | refine' Zt) <;> (try refine' ZiD))
  | refine' Ze
  | ((with_reducible show True); exact trivial)
  | refine' ZiJ
  | exact sd
  | fail)
 all_goals (try clear nx)
 all_goals (apply_rules (newGoals := .nonDependentOnly) only [dep]; exact ())) : p := h
theorem Zkh {p : Prop} (h : p := by
 repeat' (first
  | refine' Zbt
  | refine' Zbu
  | refine' Zf
  | refine' Zm
  | refine' Zbv
  | ((first
    | refine' ZgV
    | ((with_reducible show CWr _ _ _ _ _ _ _ _ _ _ _ _ _ _); first | (refine CWr.op rfl ?_ ?_ ?_) | (refine CWr.assign rfl ?_ ?_) | (refine CWr.call (f := 175) rfl ?_ rfl (hs) (fun _ _ h => h) ?_ ?_ ?_; (focus kernel_rfl)))
    | refine' Zdl
    | refine' Zbw
    | refine' ZfH) <;> (try refine' ZiC))
  | refine' Ze
  | refine' Zbx
  | refine' ZgU
  | exact sd
  | fail)
 all_goals (try clear nx)
 all_goals (apply_rules (newGoals := .nonDependentOnly) only [dep]; exact ())) : p := h
theorem ZoO {p : Prop} (h : p := by
 repeat' (first
  | refine' Zf
  | refine' Zm
  | refine' Zk
  | ((first
    | refine' Zaq
    | refine' Zt) <;> (try refine' Zy))
  | refine' Ze
  | ((with_reducible show True); exact trivial)
  | refine' ZsC
  | refine' ZsD
  | refine' Zby
  | exact sd
  | fail)
 all_goals (try clear nx)
 all_goals (apply_rules (newGoals := .nonDependentOnly) only [dep]; exact ())) : p := h
theorem ZvJ {p : Prop} (h : p := by
 repeat' (first
  | refine' Zf
  | refine' Zm
  | refine' Zk
  | ((first
    | refine' Zaq
    | ((with_reducible show AW _ _ _ _); first | ((fail_if_success (show AW _ (.region 35 _ _) _ _)); (show AW _ (.region _ _ false) _ _); refine kp ?_; refine AW.region ?_))) <;> (try refine' Zy))
  | refine' Ze
  | ((with_reducible show True); exact trivial)
  | refine' Zam
  | refine' Zcz
  | exact sd
  | fail)
 all_goals (try clear nx)
 all_goals (apply_rules (newGoals := .nonDependentOnly) only [dep]; exact ())) : p := h
theorem Zaw {p : Prop} (h : p := by
 repeat' (first
  | refine' Zf
  | refine' Zk
  | ((first
    | refine' ZbT
    | refine' Zt) <;> (try refine' ZdR))
  | refine' Ze
  | ((with_reducible show True); exact trivial)
  | refine' Zal
  | exact sd
  | fail)
 all_goals (try clear nx)
 all_goals (apply_rules (newGoals := .nonDependentOnly) only [dep]; exact ())) : p := h
theorem Zax {p : Prop} (h : p := by
 repeat' (first
  | refine' Zj9
  | refine' Zm
  | refine' Zk
  | ((first
    | refine' Znf
    | refine' Zt) <;> (try refine' Zy))
  | refine' Ze
  | ((with_reducible show True); exact trivial)
  | fail
  | refine' Zby
  | exact sd
  | fail)
 all_goals (try clear nx)
 all_goals (apply_rules (newGoals := .nonDependentOnly) only [dep]; exact ())) : p := h
theorem ZhH {p : Prop} (h : p := by
 repeat' (first
  | refine' Zf
  | refine' Zk
  | ((first
    | ((with_reducible show AWL _ _ _ _ _); first | refine' ZaD | refine' ZeD | (refine AWL.op (sl := SL) rfl rfl ?_ ?_) | refine' ZbS | refine AWL.guardU rfl rfl rfl rfl rfl rfl ?_ | refine' cl)
    | refine' Zt) <;> (try refine' ZdR))
  | refine' Ze
  | ((with_reducible show True); exact trivial)
  | refine' Zal
  | exact sd
  | fail)
 all_goals (try clear nx)
 all_goals (apply_rules (newGoals := .nonDependentOnly) only [dep]; exact ())) : p := h
theorem ZvK {p : Prop} (h : p := by
 repeat' (first
  | refine' Zf
  | refine' Zm
  | refine' Zk
  | ((first
    | refine' Zj7
    | refine' Zst) <;> (try refine' ZfG))
  | refine' Ze
  | ((with_reducible show True); exact trivial)
  | refine' ZiF
  | exact sd
  | fail)
 all_goals (try clear nx)
 all_goals (apply_rules (newGoals := .nonDependentOnly) only [dep]; exact ())) : p := h
theorem ZvL {p : Prop} (h : p := by
 repeat' (first
  | refine' Zf
  | refine' Zm
  | refine' Zk
  | ((first
    | refine' ZsE
    | refine' Zt) <;> (try refine' Zy))
  | refine' Ze
  | ((with_reducible show True); exact trivial)
  | refine' ZdT
  | ((refine ZmB.mk (Zjx.mk [0, 1] rfl rfl rfl rfl ?_ ?_ ?_ ?_); (focus (first | exact Or.inl rfl | exact Or.inr rfl)); (focus (repeat (first | exact List.forall_mem_nil _ | refine Ya5.2 ⟨rfl, ?_⟩)))) <;> (try simp (disch := omega) only [NM, Nat.reduceBEq, reduceAdd, reduceMul, Int.reduceToNat, reduceSub, List.set_cons_zero, List.set_cons_succ, nx]))
  | refine' ZdU
  | ((refine ZmB.pan [0, 1] rfl rfl (by repeat (first | exact List.forall_mem_nil _ | refine Ya5.2 ⟨rfl, ?_⟩)) ?_); (try simp (disch := omega) only [NM, Nat.reduceBEq, reduceAdd, reduceMul, Int.reduceToNat, reduceSub, List.set_cons_zero, List.set_cons_succ, nx]))
  | refine' Zby
  | exact sd
  | fail)
 all_goals (try clear nx)
 all_goals (apply_rules (newGoals := .nonDependentOnly) only [dep]; exact ())) : p := h
theorem ZvM {p : Prop} (h : p := by
 repeat' (first
  | refine' Zf
  | refine' Zk
  | ((first
    | refine' Znd
    | refine' ZsF) <;> (try refine' ZdS))
  | refine' Ze
  | ((with_reducible show True); exact trivial)
  | refine' Zne
  | exact sd
  | fail)
 all_goals (try clear nx)
 all_goals (apply_rules (newGoals := .nonDependentOnly) only [dep]; exact ())) : p := h
theorem ZvN {p : Prop} (h : p := by
 repeat' (first
  | ((with_reducible show AWL _ _ _ _ _); first
      | (refine AWL.opN (sl := SL) rfl rfl rfl trivial ?_; (try refine' ZfF))
      | refine' Zbd
      | ((first | refine' ZeD | refine' ZeA | (refine AWL.op (sl := SL) rfl rfl ?_ ?_) | (refine AWL.callA (f := 176) rfl rfl rfl ?_ (Yaa rfl) ?_ (Ztu ?_ ?_ ?_ ?_ ?_) rfl ?_; (focus kernel_rfl); (focus (simp (disch := omega) only [VW, List.toList_toArray, List.map_cons, List.map_nil, NSX, Nat.reduceBEq, Nat.reduceAdd, Nat.reduceMul, Int.reduceToNat, Nat.reduceSub, TY, SLS, List.set_cons_zero, List.set_cons_succ, Zas, Za5, dz, Za, nx]; (try exact rfl); done)))) <;> (try ((first | show AWL _ _ _ _ _ | show AW _ _ _ _ | show FW _ _ _ _ _ _ _ _ _ _ | show CW _ _ _ _ _ _ _ _ _ _ _ _ | refine' Znm); (try refine' ZfF)))))
  | ((with_reducible show CWr _ _ _ _ _ _ _ _ _ _ _ _ _ _); first
      | ((first | (refine CWr.op rfl ?_ ?_ ?_) | (refine CWr.callA (f := 176) rfl ?_ ?_ (Ztu ?_ ?_ ?_ ?_ ?_) rfl (fun _ _ h => h) rfl ⟨ZlN rfl, (by repeat' (first | exact ZrQ | refine nvm_cons ?_ ?_ | exact nv_nums _ _ | exact nv_all rfl))⟩ ?_ ?_ ?_; (focus kernel_rfl); (focus (simp (disch := omega) only [VW, List.toList_toArray, List.map_cons, List.map_nil, NSX, Nat.reduceBEq, Nat.reduceAdd, Nat.reduceMul, Int.reduceToNat, Nat.reduceSub, TY, SLS, List.set_cons_zero, List.set_cons_succ, Zas, Za5, dz, Za, nx]; (try exact rfl); done)))) <;> (try ((first | show AWL _ _ _ _ _ | show AW _ _ _ _ | show FW _ _ _ _ _ _ _ _ _ _ | show CW _ _ _ _ _ _ _ _ _ _ _ _ | refine' Znm); (try refine' ZfF)))))
  | ((with_reducible show CW _ _ _ _ _ _ _ _ _ _ _ _); first
      | refine CW.skip rfl rfl ?_
      | refine CW.step rfl rfl rfl rfl rfl ?_
      | refine' Zm9
      | refine CW.tail rfl ?_)
  | ((with_reducible show True); first
      | exact trivial)
  | ((with_reducible show ZmA _ _ _ _ _ _); first
      | ((repeat' (first | exact trivial | exact Or.inr (Or.inl rfl) | exact Or.inl rfl | exact Or.inr (Or.inr rfl) | refine And.intro ?_ ?_)); done))
  | ((with_reducible show Zc4 _ _ _ = true); first
      | kernel_rfl)
  | ((with_reducible show FW _ _ _ _ _ _ _ _ _ _); first
      | refine FW.pass rfl rfl ?_
      | refine FW.go rfl ?_
      | refine FW.nil ?_
      | ((first | (refine FW.float rfl rfl rfl rfl rfl ?_)) <;> (try ((first | show AWL _ _ _ _ _ | show AW _ _ _ _ | show FW _ _ _ _ _ _ _ _ _ _ | show CW _ _ _ _ _ _ _ _ _ _ _ _ | refine' Znm); (try refine' ZfF)))))
  | ((with_reducible show AW _ _ _ _); first
      | refine' Zbe
      | refine' Zbf
      | ((show AW _ (.region _ _ false) _ _); refine kp ?_; (try refine' ZfF); refine AW.region ?_)
      | refine' Zbg
      | refine' Zna
      | (((show AW _ (.region _ _ true) _ _); refine kp ?_; (try refine' ZfF); refine AW.calm false [] [] ZfU ?hpan ?hchkc rfl ?_; (case hchkc => (as_aux_lemma => kernel_rfl)); (case hpan => exact (by first | first | assumption | exact Z2 | exact Zx | refine' Zey | refine' ZgT | refine' Zkb))); (try refine' ZfF)))
  | ((refine Zdi.mk rfl rfl rfl ?_ ?_ ?_; (focus (first | exact Or.inl rfl | exact Or.inr rfl))) <;> (try simp (disch := omega) only [NSX, St.keepS, Nat.reduceBEq, Nat.reduceAdd, Nat.reduceMul, Int.reduceToNat, Nat.reduceSub, TY, SLS, List.set_cons_zero, List.set_cons_succ, Zas, Za5, dz, Za, nx]))
  | exact sd
  | fail)
 all_goals (try clear nx)
 all_goals (apply_rules (newGoals := .nonDependentOnly) only [dep]; exact ())) : p := h
theorem ZvO {p : Prop} (h : p := by
 repeat' (first
  | refine' Zf
  | refine' Zm
  | refine' Zk
  | ((first
    | refine' Zaq
    | ((with_reducible show AW _ _ _ _); first | ((fail_if_success (show AW _ (.region 25 _ _) _ _)); (show AW _ (.region _ _ false) _ _); refine kp ?_; refine AW.region ?_))) <;> (try refine' Zy))
  | refine' Ze
  | ((with_reducible show True); exact trivial)
  | refine' Zam
  | refine' Zcz
  | exact sd
  | fail)
 all_goals (try clear nx)
 all_goals (apply_rules (newGoals := .nonDependentOnly) only [dep]; exact ())) : p := h
theorem Ze6 {p : Prop} (h : p := by
 repeat' (first
  | refine' Zf
  | refine' Zm
  | refine' Zk
  | ((first
    | refine' Zaq
    | refine' Zt) <;> (try refine' Zy))
  | refine' Ze
  | ((with_reducible show True); exact trivial)
  | refine' Zam
  | exact sd
  | fail)
 all_goals (try clear nx)
 all_goals (apply_rules (newGoals := .nonDependentOnly) only [dep]; exact ())) : p := h
theorem ZoP {p : Prop} (h : p := by
 repeat' (first
  | refine' Zbz
  | refine' Zf
  | refine' Zm
  | refine' Znk
  | ((first
    | refine' ZgW
    | refine' Zj8
    | refine' Znl
    | ((with_reducible show AW _ _ _ _); first | refine' Zex | ((show AW _ (.region 15 _ true) _ _); refine kp ?_; refine AW.drawK (l1 := ?l1) (l2 := ?l2) 10 ZfU ?hck ?h1 ?h2 ?_; (case hck => kernel_rfl); (case h1 => ((simp only [List.take_succ_cons, List.take_zero]) <;> exact rfl)); (case h2 => ((simp only [List.drop_succ_cons, List.drop_zero]) <;> exact rfl))) | refine' Znc)
    | (first | (refine DQ.yes rfl ?_ ?_))) <;> (try refine' Zev))
  | refine' Ze
  | ((with_reducible show True); exact trivial)
  | refine' Zam
  | exact sd
  | fail)
 all_goals (try clear nx)
 all_goals (apply_rules (newGoals := .nonDependentOnly) only [dep]; exact ())) : p := h
theorem ZvP {p : Prop} (h : p := by
 repeat' (first
  | refine' Zf
  | refine' Zm
  | refine' Zk
  | ((first
    | refine' Zj7
    | ((with_reducible show AW _ _ _ _); first | refine' ZsT)) <;> (try refine' ZfG))
  | refine' Ze
  | ((with_reducible show True); exact trivial)
  | refine' ZiF
  | exact sd
  | fail)
 all_goals (try clear nx)
 all_goals (apply_rules (newGoals := .nonDependentOnly) only [dep]; exact ())) : p := h
theorem Zgb {p : Prop} (h : p := by
 repeat' (first
  | ((with_reducible show AWL _ _ _ _ _); first
      | (refine AWL.opN (sl := SL) rfl rfl rfl trivial ?_; (try refine' ZcP))
      | refine' Zbd
      | ((first | (refine AWL.op (sl := SL) rfl rfl ?_ ?_) | refine' ZeC | (refine AWL.callV (f := 159) rfl rfl rfl rfl ?_ (Yaa rfl) rfl (Zth _ ?_ _ ?_) ?_; (focus kernel_rfl)) | (refine AWL.call (f := 159) rfl rfl rfl ?_ rfl (Yaa rfl) rfl (Zth _ ?_ _ ?_) ?_; (focus kernel_rfl))) <;> (try ((first | show AWL _ _ _ _ _ | show AW _ _ _ _ | show FW _ _ _ _ _ _ _ _ _ _ | show CW _ _ _ _ _ _ _ _ _ _ _ _ | refine' Zap); (try refine' ZcP))))
      | (refine AWL.guard2 rfl rfl rfl rfl rfl rfl ?_ ?_ <;> (intro hc; (try simp only [Bool.not_true, Bool.not_false] at hc); first | (cases hc; done) | refine' Zez) <;> (try (first | refine' Zdk | refine' ZiK); (try refine' ZcP)))
      | refine' Zcy
      | (refine AWL.guardU rfl rfl rfl rfl rfl rfl ?_; (try refine' ZcP)))
  | ((with_reducible show CWr _ _ _ _ _ _ _ _ _ _ _ _ _ _); first
      | ((first | (refine CWr.op rfl ?_ ?_ ?_) | (refine CWr.call (f := 159) rfl ?_ rfl (Zth _ ?_ _ ?_) (fun _ _ h => h) ?_ ?_ ?_; (focus kernel_rfl))) <;> (try ((first | show AWL _ _ _ _ _ | show AW _ _ _ _ | show FW _ _ _ _ _ _ _ _ _ _ | show CW _ _ _ _ _ _ _ _ _ _ _ _ | refine' Zap); (try refine' ZcP)))))
  | ((with_reducible show CW _ _ _ _ _ _ _ _ _ _ _ _); first
      | refine CW.skip rfl rfl ?_
      | refine CW.step rfl rfl rfl rfl rfl ?_
      | refine' Zm9
      | (refine CW.guard2 rfl rfl rfl rfl rfl rfl rfl rfl ?_ ?_ <;> (intro hc; (try simp only [Bool.not_true, Bool.not_false] at hc); first | (cases hc; done) | refine' Zez) <;> (try (first | refine' Zdk | refine' ZiK); (try refine' ZcP)))
      | (refine CW.guardU rfl rfl rfl rfl rfl rfl rfl rfl ?_; (try refine' ZcP))
      | refine CW.tail rfl ?_)
  | ((with_reducible show True); first
      | exact trivial)
  | ((with_reducible show ZmA _ _ _ _ _ _); first
      | ((repeat' (first | exact trivial | exact Or.inr (Or.inl rfl) | exact Or.inl rfl | exact Or.inr (Or.inr rfl) | refine And.intro ?_ ?_)); done))
  | ((with_reducible show Zc4 _ _ _ = true); first
      | kernel_rfl)
  | ((with_reducible show FW _ _ _ _ _ _ _ _ _ _); first
      | refine FW.pass rfl rfl ?_
      | refine FW.go rfl ?_
      | refine FW.nil ?_
      | ((first | (refine FW.float rfl rfl rfl rfl rfl ?_)) <;> (try ((first | show AWL _ _ _ _ _ | show AW _ _ _ _ | show FW _ _ _ _ _ _ _ _ _ _ | show CW _ _ _ _ _ _ _ _ _ _ _ _ | refine' Zap); (try refine' ZcP)))))
  | ((with_reducible show AW _ _ _ _); first
      | refine' Zbe
      | refine' Zbf
      | ((show AW _ (.region _ _ false) _ _); refine kp ?_; (try refine' ZcP); refine AW.region ?_)
      | refine' Zbg
      | refine' Zna
      | (((show AW _ (.region _ _ true) _ _); refine kp ?_; (try refine' ZcP); refine AW.calm true [] [] ZfU ?hpan ?hchkc rfl ?_; (case hchkc => (as_aux_lemma => kernel_rfl)); (case hpan => exact (by first | first | assumption | exact Z2 | exact Zx | refine' Zey | refine' ZgT | refine' Zkb))); (try refine' ZcP)))
  | ((refine Zdi.mk rfl rfl rfl ?_ ?_ ?_; (focus (first | exact Or.inl rfl | exact Or.inr rfl))) <;> (try simp (disch := omega) only [NSX, St.keepS, Nat.reduceBEq, Nat.reduceAdd, Nat.reduceMul, Int.reduceToNat, Nat.reduceSub, TY, SLS, List.set_cons_zero, List.set_cons_succ, Za, S20, T20, nx]))
  | exact sd
  | fail)
 all_goals (try clear nx)
 all_goals (apply_rules (newGoals := .nonDependentOnly) only [dep]; exact ())) : p := h
theorem Zki {p : Prop} (h : p := by
 repeat' (first
  | ((with_reducible show AWL _ _ _ _ _); first
      | (refine AWL.opN (sl := SL) rfl rfl rfl trivial ?_; (try refine' Zm3))
      | refine' Zbd
      | ((first | (refine AWL.op (sl := SL) rfl rfl ?_ ?_)) <;> (try ((first | show AWL _ _ _ _ _ | show AW _ _ _ _ | show DQ _ _ _ _ _ _ | refine' Zap); (try refine' Zm3)))))
  | ((with_reducible show True); first
      | exact trivial)
  | ((with_reducible show AW _ _ _ _); first
      | refine' Zbe
      | refine' Zbf
      | ((show AW _ (.region _ _ false) _ _); refine kp ?_; (try refine' Zm3); refine AW.region ?_)
      | refine' Zbg
      | (refine AW.cond rfl (fun hc => ?_) (fun hc => ?_) <;> first | (cases hc; done) | refine' ZbK))
  | ((refine Zdi.mk rfl rfl rfl ?_ ?_ ?_; (focus (first | exact Or.inl rfl | exact Or.inr rfl))) <;> (try simp (disch := omega) only [NSX, St.keepS, Nat.reduceBEq, Nat.reduceAdd, Nat.reduceMul, Int.reduceToNat, Nat.reduceSub, TY, SLS, List.set_cons_zero, List.set_cons_succ, Zas, Za5, dz, Za, S33, nx]))
  | exact sd
  | fail)
 all_goals (try clear nx)
 all_goals (apply_rules (newGoals := .nonDependentOnly) only [dep]; exact ())) : p := h
theorem ZhI {p : Prop} (h : p := by
 repeat' (first
  | refine' Zf
  | refine' Zm
  | refine' Zk
  | ((first
    | refine' Znb
    | refine' Zt) <;> (try refine' ZfG))
  | refine' Ze
  | ((with_reducible show True); exact trivial)
  | refine' ZgU
  | exact sd
  | fail)
 all_goals (try clear nx)
 all_goals (apply_rules (newGoals := .nonDependentOnly) only [dep]; exact ())) : p := h
theorem ZvQ {p : Prop} (h : p := by
 repeat' (first
  | refine' Zf
  | refine' Zk
  | ((first
    | refine' Znd
    | refine' Zt
    | refine' ZiG) <;> (try refine' ZdS))
  | refine' Ze
  | refine' ZiH
  | refine' Zne
  | exact sd
  | fail)
 all_goals (try clear nx)
 all_goals (apply_rules (newGoals := .nonDependentOnly) only [dep]; exact ())) : p := h
theorem ZoQ {p : Prop} (h : p := by
 repeat' (first
  | refine' Zf
  | refine' Zk
  | ((first
    | refine' ZgV
    | refine' Zt) <;> (try refine' ZdS))
  | refine' Ze
  | ((with_reducible show True); exact trivial)
  | refine' Zal
  | exact sd
  | fail)
 all_goals (try clear nx)
 all_goals (apply_rules (newGoals := .nonDependentOnly) only [dep]; exact ())) : p := h
theorem ZoR {p : Prop} (h : p := by
 repeat' (first
  | refine' Zf
  | refine' Zk
  | ((first
    | refine' ZsB
    | refine' Zt) <;> (try refine' ZdS))
  | refine' Ze
  | ((with_reducible show True); exact trivial)
  | refine' Zal
  | exact sd
  | fail)
 all_goals (try clear nx)
 all_goals (apply_rules (newGoals := .nonDependentOnly) only [dep]; exact ())) : p := h
theorem ZoS {p : Prop} (h : p := by
 repeat' (first
  | ((with_reducible show AWL _ _ _ _ _); first
      | refine' Zsp
      | refine' Zbd
      | ((first | (refine AWL.op (sl := SL) rfl rfl ?_ ?_) | refine' ZeC | (refine AWL.callV (f := 169) rfl rfl rfl rfl ?_ (Yaa rfl) rfl (Zl8 _) ?_; (focus kernel_rfl)) | (refine AWL.call (f := 169) rfl rfl rfl ?_ rfl (Yaa rfl) rfl (Zl8 _) ?_; (focus kernel_rfl))) <;> (try ((first | show AWL _ _ _ _ _ | show AW _ _ _ _ | show DQ _ _ _ _ _ _ | refine' Zap); (try refine' ZfE))))
      | refine' Zsq
      | refine' Zcy
      | (refine AWL.guardU rfl rfl rfl rfl rfl rfl ?_; (try refine' ZfE)))
  | ((with_reducible show True); first
      | exact trivial)
  | ((with_reducible show AW _ _ _ _); first
      | refine' Zbe
      | refine' Zbf
      | refine' Zsr
      | refine' Zbg
      | (refine AW.cond rfl (fun hc => ?_) (fun hc => ?_) <;> first | (cases hc; done) | refine' ZbK))
  | refine' Zss
  | exact sd
  | fail)
 all_goals (try clear nx)
 all_goals (apply_rules (newGoals := .nonDependentOnly) only [dep]; exact ())) : p := h
theorem Zgc {p : Prop} (h : p := by
 repeat' (first
  | refine' Zbz
  | refine' Zf
  | refine' Zm
  | refine' Zk
  | ((first
    | refine' ZgW
    | refine' Zt) <;> (try refine' Zev))
  | refine' Ze
  | ((with_reducible show True); exact trivial)
  | refine' Zam
  | exact sd
  | fail)
 all_goals (try clear nx)
 all_goals (apply_rules (newGoals := .nonDependentOnly) only [dep]; exact ())) : p := h
theorem Zgd {p : Prop} (h : p := by
 repeat' (first
  | refine' Zbt
  | refine' Zbu
  | refine' Zf
  | refine' Zbv
  | ((first
    | refine' ZgV
    | ((with_reducible show CWr _ _ _ _ _ _ _ _ _ _ _ _ _ _); first | (refine CWr.op rfl ?_ ?_ ?_) | (refine CWr.call (f := 104) rfl ?_ rfl (hsi) (fun _ _ h => h) ?_ ?_ ?_; (focus kernel_rfl)))
    | refine' Zdl
    | refine' Zbw
    | refine' ZfH) <;> (try refine' Zm8))
  | refine' Ze
  | refine' Zbx
  | refine' Zal
  | exact sd
  | fail)
 all_goals (try clear nx)
 all_goals (apply_rules (newGoals := .nonDependentOnly) only [dep]; exact ())) : p := h
theorem ZvR {p : Prop} (h : p := by
 repeat' (first
  | refine' Zbz
  | refine' Zf
  | refine' Zm
  | refine' Zk
  | ((first
    | refine' ZsQ
    | refine' Zt
    | refine' ZiG) <;> (try refine' Zev))
  | refine' Ze
  | refine' ZiH
  | refine' Zam
  | exact sd
  | fail)
 all_goals (try clear nx)
 all_goals (apply_rules (newGoals := .nonDependentOnly) only [dep]; exact ())) : p := h
theorem ZoT {p : Prop} (h : p := by
 repeat' (first
  | refine' Zf
  | refine' Zm
  | refine' Zk
  | ((first
    | refine' ZsE
    | refine' Zt) <;> (try refine' Zy))
  | refine' Ze
  | ((with_reducible show True); exact trivial)
  | refine' ZdT
  | refine' ZdU
  | refine' Zby
  | exact sd
  | fail)
 all_goals (try clear nx)
 all_goals (apply_rules (newGoals := .nonDependentOnly) only [dep]; exact ())) : p := h
theorem Zge {p : Prop} (h : p := by
 repeat' (first
  | refine' Zf
  | refine' Zm
  | refine' Zk
  | ((first
    | refine' ZbT
    | refine' Zt) <;> (try refine' ZfG))
  | refine' Ze
  | ((with_reducible show True); exact trivial)
  | refine' ZgU
  | exact sd
  | fail)
 all_goals (try clear nx)
 all_goals (apply_rules (newGoals := .nonDependentOnly) only [dep]; exact ())) : p := h
theorem ZvS {p : Prop} (h : p := by
 repeat' (first
  | refine' Zf
  | refine' Zm
  | refine' Zk
  | ((first
    | refine' Zaq
    | ((with_reducible show AW _ _ _ _); first | ((fail_if_success (show AW _ (.region 42 _ _) _ _)); (show AW _ (.region _ _ false) _ _); refine kp ?_; refine AW.region ?_))) <;> (try refine' Zy))
  | refine' Ze
  | ((with_reducible show True); exact trivial)
  | refine' Zam
  | refine' Zcz
  | exact sd
  | fail)
 all_goals (try clear nx)
 all_goals (apply_rules (newGoals := .nonDependentOnly) only [dep]; exact ())) : p := h
theorem ZdX {p : Prop} (h : p := by
 repeat' (first
  | (refine AWL.opN (sl := SL) rfl rfl rfl trivial ?_; (try refine' Zj3))
  | (refine AW.seqQ ?_; intro Qn hQn)
  | (refine AW.blockQ ?_; intro Qn hQn)
  | refine AW.region ?_
  | refine' Zsj
  | refine FW.nil ?_
  | refine FW.pass rfl rfl ?_
  | refine FW.go rfl ?_
  | refine CW.skip rfl rfl ?_
  | refine CW.step rfl rfl rfl rfl rfl ?_
  | ((first
    | refine' Zsk
    | refine' Zsl
    | refine' Zsm
    | (refine AWL.op (sl := SL) rfl rfl ?_ ?_)
    | (refine FW.float rfl rfl rfl rfl rfl ?_)
    | (refine CWr.op rfl ?_ ?_ ?_)
    | (refine CWr.assign rfl ?_ ?_)
    | (refine CWr.alloc rfl rfl rfl rfl ?_)
    | refine' Zsn
    | ((show AWL _ _ ({ dst := _, op := _, type := _, pos := _, after := _, guard := none } :: _) _ _); refine AWL.frzA rfl rfl ?_)
    | (refine AWL.callV (f := 138) rfl rfl rfl rfl ?_ (Yaa rfl) rfl (Zg1) ?_; (focus kernel_rfl))
    | (refine AWL.call (f := 138) rfl rfl rfl ?_ rfl (Yaa rfl) rfl (Zg1) ?_; (focus kernel_rfl))
    | (refine CWr.call (f := 138) rfl ?_ rfl (Zg1) (fun _ _ h => h) ?_ ?_ ?_; (focus kernel_rfl))
    | (refine AWL.callV (f := 139) rfl rfl rfl rfl ?_ (Yaa rfl) rfl (Zg2) ?_; (focus kernel_rfl))
    | (refine AWL.call (f := 139) rfl rfl rfl ?_ rfl (Yaa rfl) rfl (Zg2) ?_; (focus kernel_rfl))
    | (refine CWr.call (f := 139) rfl ?_ rfl (Zg2) (fun _ _ h => h) ?_ ?_ ?_; (focus kernel_rfl))
    | fail) <;> (try ((first | show AWL _ _ _ _ _ | show AW _ _ _ _ | show FW _ _ _ _ _ _ _ _ _ _ | show CW _ _ _ _ _ _ _ _ _ _ _ _ | refine' Zap); (try refine' Zj3))))
  | ((first | refine' ZsW | refine' ZsU) <;> (intro hc; (try simp only [Bool.not_true, Bool.not_false] at hc); first | (cases hc; done) | refine' ZsR) <;> (try (first | refine' Zdk | refine' ZiK); (try refine' Zj3)))
  | refine' Zcy
  | ((first | refine' ZsV | refine AWL.guardU rfl rfl rfl rfl rfl rfl ?_ | refine' Zj5); (try refine' Zj3))
  | refine CW.tail rfl ?_
  | refine' Zso
  | ((refine Zdi.mk rfl rfl rfl ?_ ?_ ?_; (focus (first | exact Or.inl rfl | exact Or.inr rfl))) <;> (try simp (disch := omega) only [NSX, Nat.reduceBEq, Nat.reduceAdd, Nat.reduceMul, Int.reduceToNat, Nat.reduceSub, TY, List.set_cons_zero, List.set_cons_succ, SLS, Za, Zag, Zo, O5, O11, nx]))
  | exact sd
  | fail)
 all_goals (try clear nx)
 all_goals (apply_rules (newGoals := .nonDependentOnly) only [dep]; exact ())) : p := h
theorem ZvT {p : Prop} (h : p := by
 repeat' (first
  | refine' Zbt
  | refine' Zbu
  | refine' Zf
  | refine' Zbv
  | ((first
    | ((with_reducible show AWL _ _ _ _ _); first | refine' ZaD | refine' ZeD | refine' ZeA | (refine AWL.op (sl := SL) rfl rfl ?_ ?_) | refine' cl)
    | ((with_reducible show CWr _ _ _ _ _ _ _ _ _ _ _ _ _ _); first | (refine CWr.op rfl ?_ ?_ ?_) | (refine CWr.call (f := 177) rfl ?_ rfl (Zud _ hl hb _ _) (fun _ _ h => h) ?_ ?_ ?_; (focus kernel_rfl)))
    | refine' Zdl
    | refine' Zbw
    | ((with_reducible show AW _ _ _ _); first | refine' Zex | ((show AW _ (.region _ _ true) _ _); refine kp ?_; refine AW.calm false [] [] ZfU ?hpan ?hchkc rfl ?_; (case hchkc => (as_aux_lemma => kernel_rfl)); (case hpan => (first | assumption | exact Z2 | exact Zx | refine' Zey | exact Zat (by assumption)))))) <;> (try refine' Zm8))
  | refine' Ze
  | refine' Zbx
  | refine' Zal
  | exact sd
  | fail)
 all_goals (try clear nx)
 all_goals (apply_rules (newGoals := .nonDependentOnly) only [dep]; exact ())) : p := h
theorem ZoU {p : Prop} (h : p := by
 repeat' (first
  | ((with_reducible show AWL _ _ _ _ _); first
      | (refine AWL.opN (sl := SL) rfl rfl rfl trivial ?_; (try refine' Ziw))
      | refine' Zbd
      | ((first | (refine AWL.op (sl := SL) rfl rfl ?_ ?_) | refine' ZeC | refine' Zkc | refine' Zkd) <;> (try ((first | show AWL _ _ _ _ _ | show AW _ _ _ _ | show DQ _ _ _ _ _ _ | refine' Zap); (try refine' Ziw))))
      | (refine AWL.guard2 rfl rfl rfl rfl rfl rfl ?_ ?_ <;> (intro hc; (try simp only [Bool.not_true, Bool.not_false] at hc); first | (cases hc; done) | refine' Zez) <;> (try (first | refine' Zdk); (try refine' Ziw)))
      | refine' Zcy
      | (refine AWL.guardU rfl rfl rfl rfl rfl rfl ?_; (try refine' Ziw)))
  | ((with_reducible show True); first
      | exact trivial)
  | ((with_reducible show AW _ _ _ _); first
      | refine' Zbe
      | refine' Zbf
      | ((show AW _ (.region _ _ false) _ _); refine kp ?_; (try refine' Ziw); refine AW.region ?_)
      | refine' Zbg
      | (refine AW.cond rfl (fun hc => ?_) (fun hc => ?_) <;> first | (cases hc; done) | refine' ZbK))
  | ((refine Zdi.mk rfl rfl rfl ?_ ?_ ?_; (focus (first | exact Or.inl rfl | exact Or.inr rfl))) <;> (try simp (disch := omega) only [NSX, St.keepS, Nat.reduceBEq, Nat.reduceAdd, Nat.reduceMul, Int.reduceToNat, Nat.reduceSub, TY, SLS, List.set_cons_zero, List.set_cons_succ, Za, S12, nx]))
  | exact sd
  | fail)
 all_goals (try clear nx)
 all_goals (apply_rules (newGoals := .nonDependentOnly) only [dep]; exact ())) : p := h
theorem ZbU {p : Prop} (h : p := by
 repeat' (first
  | refine' Zf
  | refine' Zk
  | ((first
    | ((with_reducible show AWL _ _ _ _ _); first | refine' ZaD | (refine AWL.op (sl := SL) rfl rfl ?_ ?_) | refine' ZbS | refine AWL.guardU rfl rfl rfl rfl rfl rfl ?_)
    | refine' Zt) <;> (try refine' ZdR))
  | refine' Ze
  | ((with_reducible show True); exact trivial)
  | refine' Zal
  | exact sd
  | fail)
 all_goals (try clear nx)
 all_goals (apply_rules (newGoals := .nonDependentOnly) only [dep]; exact ())) : p := h
theorem ZvU {p : Prop} (h : p := by
 repeat' (first
  | refine' Zf
  | refine' Zm
  | refine' Zk
  | ((first
    | refine' Zaq
    | ((with_reducible show AW _ _ _ _); first | ((fail_if_success (show AW _ (.region 37 _ _) _ _)); (show AW _ (.region _ _ false) _ _); refine kp ?_; refine AW.region ?_))) <;> (try refine' Zy))
  | refine' Ze
  | ((with_reducible show True); exact trivial)
  | refine' Zam
  | refine' Zcz
  | exact sd
  | fail)
 all_goals (try clear nx)
 all_goals (apply_rules (newGoals := .nonDependentOnly) only [dep]; exact ())) : p := h
theorem ZdY {p : Prop} (h : p := by
 repeat' (first
  | refine' Zf
  | refine' Zm
  | refine' Zk
  | ((first
    | refine' Zaq
    | refine' Zt) <;> (try refine' Zy))
  | refine' Ze
  | ((with_reducible show True); exact trivial)
  | refine' ZdT
  | refine' Zsy
  | refine' ZdU
  | refine' Zsz
  | refine' Zby
  | exact sd
  | fail)
 all_goals (try clear nx)
 all_goals (apply_rules (newGoals := .nonDependentOnly) only [dep]; exact ())) : p := h
theorem ZoV {p : Prop} (h : p := by
 repeat' (first
  | refine' Zf
  | refine' Zm
  | refine' Zk
  | ((first
    | refine' Zaq
    | refine' Zt) <;> (try refine' Zy))
  | refine' Ze
  | ((with_reducible show True); exact trivial)
  | refine' Zsw
  | refine' Zsx
  | refine' Zby
  | exact sd
  | fail)
 all_goals (try clear nx)
 all_goals (apply_rules (newGoals := .nonDependentOnly) only [dep]; exact ())) : p := h
theorem Ze7 {p : Prop} (h : p := by
 repeat' (first
  | refine' Zbt
  | refine' Zbu
  | refine' Zf
  | refine' Zm
  | refine' Zbv
  | ((first
    | refine' ZgV
    | refine' Zj4
    | refine' Zdl
    | refine' Zbw
    | refine' ZfH) <;> (try refine' ZiC))
  | refine' Ze
  | refine' Zbx
  | refine' ZgU
  | exact sd
  | fail)
 all_goals (try clear nx)
 all_goals (apply_rules (newGoals := .nonDependentOnly) only [dep]; exact ())) : p := h
theorem ZoW {p : Prop} (h : p := by
 repeat' (first
  | refine' Zf
  | refine' Zk
  | ((first
    | refine' ZgV
    | refine' Zt) <;> (try refine' ZdR))
  | refine' Ze
  | ((with_reducible show True); exact trivial)
  | refine' Zal
  | exact sd
  | fail)
 all_goals (try clear nx)
 all_goals (apply_rules (newGoals := .nonDependentOnly) only [dep]; exact ())) : p := h
theorem ZhJ {p : Prop} (h : p := by
 repeat' (first
  | refine' Zf
  | refine' Zm
  | refine' Zdm
  | ((first
    | refine' Zaq
    | ((with_reducible show DQ _ _ _ _ _ _); first | (refine DQ.op rfl rfl rfl rfl rfl ?_ ?_) | refine' ZeB | (refine DQ.step rfl rfl rfl rfl (Zb2.call (f := 75) rfl ?_ rfl (hu) (fun _ _ h => h) (fun _ => rfl)) ?_; (focus kernel_rfl)) | refine DQ.tail rfl ?_)
    | refine' Zdn
    | (first | (refine DQ.yes rfl ?_ ?_) | (refine DQ.yesC (Zb2.call (f := 75) rfl ?_ rfl (hu) (fun _ _ h => h) (fun _ => rfl)) ?_; (focus kernel_rfl)))) <;> (try refine' Zy))
  | refine' Ze
  | ((with_reducible show True); exact trivial)
  | refine' ZdT
  | refine' ZdU
  | refine' Zby
  | exact sd
  | fail)
 all_goals (try clear nx)
 all_goals (apply_rules (newGoals := .nonDependentOnly) only [dep]; exact ())) : p := h
theorem ZvV {p : Prop} (h : p := by
 repeat' (first
  | refine' Zf
  | refine' Zk
  | ((first
    | refine' Zsi
    | refine' Zt) <;> (try refine' ZdR))
  | refine' Ze
  | ((with_reducible show True); exact trivial)
  | refine' Zal
  | exact sd
  | fail)
 all_goals (try clear nx)
 all_goals (apply_rules (newGoals := .nonDependentOnly) only [dep]; exact ())) : p := h
theorem ZoX {p : Prop} (h : p := by
 repeat' (first
  | refine' Zf
  | refine' Zm
  | refine' Zdm
  | ((first
    | refine' Zaq
    | ((with_reducible show DQ _ _ _ _ _ _); first | (refine DQ.op rfl rfl rfl rfl rfl ?_ ?_) | refine' ZeB | (refine DQ.step rfl rfl rfl rfl (Zb2.call (f := 135) rfl ?_ rfl (hread) (fun _ _ h => h) (fun _ => rfl)) ?_; (focus kernel_rfl)) | refine DQ.tail rfl ?_)
    | refine' Zdn
    | (first | (refine DQ.yes rfl ?_ ?_) | (refine DQ.yesC (Zb2.call (f := 135) rfl ?_ rfl (hread) (fun _ _ h => h) (fun _ => rfl)) ?_; (focus kernel_rfl)))) <;> (try refine' Zy))
  | refine' Ze
  | ((with_reducible show True); exact trivial)
  | refine' ZdT
  | refine' ZdU
  | refine' Zby
  | exact sd
  | fail)
 all_goals (try clear nx)
 all_goals (apply_rules (newGoals := .nonDependentOnly) only [dep]; exact ())) : p := h
theorem Zcj {p : Prop} (h : p := by
 repeat' (first
  | refine' Zf
  | refine' Zm
  | refine' Zk
  | ((first
    | refine' Zaq
    | refine' Zt) <;> (try refine' Zy))
  | refine' Ze
  | ((with_reducible show True); exact trivial)
  | refine' Zam
  | refine' Zcz
  | exact sd
  | fail)
 all_goals (try clear nx)
 all_goals (apply_rules (newGoals := .nonDependentOnly) only [dep]; exact ())) : p := h
theorem Zkj {p : Prop} (h : p := by
 repeat' (first
  | refine' Zbz
  | refine' Zf
  | refine' Zm
  | refine' Zdm
  | ((first
    | refine' ZgW
    | refine' Znj
    | refine' Zdn
    | (first | (refine DQ.yes rfl ?_ ?_))) <;> (try refine' Zy))
  | refine' Ze
  | ((with_reducible show True); exact trivial)
  | ((refine Zjx.mk [0, 25] rfl rfl rfl rfl ?_ ?_ ?_ ?_; (focus (first | exact Or.inl rfl | exact Or.inr rfl)); (focus (repeat (first | exact List.forall_mem_nil _ | refine Ya5.2 ⟨rfl, ?_⟩)))) <;> (try simp (disch := omega) only [NM, Nat.reduceBEq, reduceAdd, reduceMul, Int.reduceToNat, reduceSub, List.set_cons_zero, List.set_cons_succ, nx]))
  | exact sd
  | fail)
 all_goals (try clear nx)
 all_goals (apply_rules (newGoals := .nonDependentOnly) only [dep]; exact ())) : p := h
theorem Zkk {p : Prop} (h : p := by
 repeat' (first
  | refine' Zbt
  | refine' Zbu
  | refine' Zf
  | refine' Zbv
  | ((first
    | refine' ZsK
    | refine' ZsM
    | refine' ZsL
    | refine' Zbw
    | refine' ZfI) <;> (try refine' Zeu))
  | refine' Ze
  | refine' Zbx
  | refine' Zal
  | exact sd
  | fail)
 all_goals (try clear nx)
 all_goals (apply_rules (newGoals := .nonDependentOnly) only [dep]; exact ())) : p := h
theorem ZvW {p : Prop} (h : p := by
 repeat' (first
  | refine' Zf
  | refine' Zm
  | refine' Zk
  | ((first
    | refine' Zaq
    | refine' Zsu) <;> (try refine' Zy))
  | refine' Ze
  | ((with_reducible show True); exact trivial)
  | refine' Zam
  | refine' Zcz
  | exact sd
  | fail)
 all_goals (try clear nx)
 all_goals (apply_rules (newGoals := .nonDependentOnly) only [dep]; exact ())) : p := h
theorem Ze8 {p : Prop} (h : p := by
 repeat' (first
  | refine' Zbt
  | refine' Zbu
  | refine' Zf
  | refine' Zbv
  | ((first
    | refine' ZbT
    | refine' ZsM
    | refine' Zj6
    | refine' Zbw
    | refine' ZfI) <;> (try refine' Zeu))
  | refine' Ze
  | refine' Zbx
  | refine' Zal
  | exact sd
  | fail)
 all_goals (try clear nx)
 all_goals (apply_rules (newGoals := .nonDependentOnly) only [dep]; exact ())) : p := h
theorem ZvX {p : Prop} (h : p := by
 repeat' (first
  | refine' Zf
  | refine' Zm
  | refine' Zk
  | ((first
    | refine' Zaq
    | ((with_reducible show AW _ _ _ _); first | ((fail_if_success (show AW _ (.region 18 _ _) _ _)); (show AW _ (.region _ _ false) _ _); refine kp ?_; refine AW.region ?_))) <;> (try refine' Zy))
  | refine' Ze
  | ((with_reducible show True); exact trivial)
  | refine' Zam
  | refine' Zcz
  | exact sd
  | fail)
 all_goals (try clear nx)
 all_goals (apply_rules (newGoals := .nonDependentOnly) only [dep]; exact ())) : p := h
theorem ZvY {p : Prop} (h : p := by
 repeat' (first
  | ((with_reducible show AWL _ _ _ _ _); first
      | (refine AWL.opN (sl := SL) rfl rfl rfl trivial ?_; (try refine' ZmZ))
      | refine' Zbd
      | ((first | (refine AWL.op (sl := SL) rfl rfl ?_ ?_) | refine' ZeC | refine' Zkc | refine' Zkd) <;> (try ((first | show AWL _ _ _ _ _ | show AW _ _ _ _ | show DQ _ _ _ _ _ _ | refine' Zap); (try refine' ZmZ)))))
  | ((with_reducible show True); first
      | exact trivial)
  | ((with_reducible show AW _ _ _ _); first
      | refine' Zbe
      | refine' Zbf
      | ((show AW _ (.region _ _ false) _ _); refine kp ?_; (try refine' ZmZ); refine AW.region ?_)
      | refine' Zbg
      | (refine AW.cond rfl (fun hc => ?_) (fun hc => ?_) <;> first | (cases hc; done) | refine' ZbK))
  | ((refine Zdi.mk rfl rfl rfl ?_ ?_ ?_; (focus (first | exact Or.inl rfl | exact Or.inr rfl))) <;> (try simp (disch := omega) only [NSX, St.keepS, Nat.reduceBEq, Nat.reduceAdd, Nat.reduceMul, Int.reduceToNat, Nat.reduceSub, TY, SLS, List.set_cons_zero, List.set_cons_succ, Za, S14, nx]))
  | exact sd
  | fail)
 all_goals (try clear nx)
 all_goals (apply_rules (newGoals := .nonDependentOnly) only [dep]; exact ())) : p := h
theorem ZvZ {p : Prop} (h : p := by
 repeat' (first
  | refine' Zj9
  | refine' Zk
  | ((first
    | ((with_reducible show AWL _ _ _ _ _); first | refine' ZaD | (refine AWL.op (sl := SL) rfl rfl ?_ ?_) | refine AWL.mkM rfl rfl rfl rfl ?_ | refine' ZbS | refine AWL.guardU rfl rfl rfl rfl rfl rfl ?_)
    | refine' Zt) <;> (try refine' ZdS))
  | refine' Ze
  | ((with_reducible show True); exact trivial)
  | refine' Zal
  | exact sd
  | fail)
 all_goals (try clear nx)
 all_goals (apply_rules (newGoals := .nonDependentOnly) only [dep]; exact ())) : p := h
theorem Zkl {p : Prop} (h : p := by
 repeat' (first
  | refine' Zf
  | refine' Zm
  | refine' Zdm
  | ((first
    | refine' Zaq
    | ((with_reducible show DQ _ _ _ _ _ _); first | (refine DQ.op rfl rfl rfl rfl rfl ?_ ?_) | refine' ZeB | refine' ZsS | refine DQ.tail rfl ?_)
    | refine' Zdn
    | refine' ZsH) <;> (try refine' Zy))
  | refine' Ze
  | ((with_reducible show True); exact trivial)
  | refine' Zam
  | exact sd
  | fail)
 all_goals (try clear nx)
 all_goals (apply_rules (newGoals := .nonDependentOnly) only [dep]; exact ())) : p := h
theorem Zck {p : Prop} (h : p := by
 repeat' (first
  | refine' Zf
  | refine' Zm
  | refine' Zk
  | ((first
    | refine' Zaq
    | refine' Zt
    | refine' ZiG) <;> (try refine' Zy))
  | refine' Ze
  | refine' ZiH
  | refine' Zam
  | refine' Zcz
  | exact sd
  | fail)
 all_goals (try clear nx)
 all_goals (apply_rules (newGoals := .nonDependentOnly) only [dep]; exact ())) : p := h
theorem Ze9 {p : Prop} (h : p := by
 repeat' (first
  | refine' Zbt
  | refine' Zbu
  | refine' Zf
  | refine' Zm
  | refine' Zbv
  | ((first
    | ((with_reducible show AWL _ _ _ _ _); first | refine AWL.frzSt 3006023 rfl rfl ?_ | refine' ZaD | (refine AWL.op (sl := SL) rfl rfl ?_ ?_) | refine' ZcR | refine' ZcS | refine' ZbS | refine AWL.guardU rfl rfl rfl rfl rfl rfl ?_ | refine' cl)
    | refine' Zj4
    | refine' Zdl
    | refine' Zbw
    | refine' ZfH) <;> (try refine' ZiC))
  | refine' Ze
  | refine' Zbx
  | refine' Zal
  | exact sd
  | fail)
 all_goals (try clear nx)
 all_goals (apply_rules (newGoals := .nonDependentOnly) only [dep]; exact ())) : p := h
theorem Zv0 {p : Prop} (h : p := by
 repeat' (first
  | refine' Zf
  | refine' Zm
  | refine' Zk
  | ((first
    | refine' Zaq
    | ((with_reducible show AW _ _ _ _); first | ((fail_if_success (show AW _ (.region 30 _ _) _ _)); (show AW _ (.region _ _ false) _ _); refine kp ?_; refine AW.region ?_))) <;> (try refine' Zy))
  | refine' Ze
  | ((with_reducible show True); exact trivial)
  | refine' Zam
  | refine' Zcz
  | exact sd
  | fail)
 all_goals (try clear nx)
 all_goals (apply_rules (newGoals := .nonDependentOnly) only [dep]; exact ())) : p := h
theorem Zkm {p : Prop} (h : p := by
 repeat' (first
  | refine' Zf
  | refine' Zm
  | refine' Zdm
  | ((first
    | refine' Zaq
    | refine' Zj8
    | refine' Zdn
    | (first | (refine DQ.yes rfl ?_ ?_))) <;> (try refine' Zy))
  | refine' Ze
  | ((with_reducible show True); exact trivial)
  | refine' ZdT
  | refine' Zsy
  | refine' ZdU
  | refine' Zsz
  | refine' Zby
  | exact sd
  | fail)
 all_goals (try clear nx)
 all_goals (apply_rules (newGoals := .nonDependentOnly) only [dep]; exact ())) : p := h
theorem Zkn {p : Prop} (h : p := by
 repeat' (first
  | refine' Zbt
  | refine' Zbu
  | refine' Zf
  | refine' Zbv
  | ((first
    | refine' Znb
    | refine' Zng
    | refine' Zdl
    | refine' Zbw
    | refine' ZfI) <;> (try refine' Zeu))
  | refine' Ze
  | refine' Zbx
  | refine' Zal
  | exact sd
  | fail)
 all_goals (try clear nx)
 all_goals (apply_rules (newGoals := .nonDependentOnly) only [dep]; exact ())) : p := h
theorem Zko {p : Prop} (h : p := by
 repeat' (first
  | refine' Zbz
  | refine' Zf
  | refine' Zm
  | refine' Zk
  | ((first
    | refine' Zka
    | refine' Zt) <;> (try refine' Zev))
  | refine' Ze
  | ((with_reducible show True); exact trivial)
  | refine' Zam
  | exact sd
  | fail)
 all_goals (try clear nx)
 all_goals (apply_rules (newGoals := .nonDependentOnly) only [dep]; exact ())) : p := h
theorem ZhK {p : Prop} (h : p := by
 repeat' (first
  | ((with_reducible show AWL _ _ _ _ _); first
      | (refine AWL.opN (sl := SL) rfl rfl rfl trivial ?_; (try refine' Ziz))
      | refine' Zbd
      | ((first | (refine AWL.op (sl := SL) rfl rfl ?_ ?_)) <;> (try ((first | show AWL _ _ _ _ _ | show AW _ _ _ _ | show DQ _ _ _ _ _ _ | refine' Zap); (try refine' Ziz))))
      | (refine AWL.guard2 rfl rfl rfl rfl rfl rfl ?_ ?_ <;> (intro hc; (try simp only [Bool.not_true, Bool.not_false] at hc); first | (cases hc; done) | refine' Zez) <;> (try (first | refine' Zdk); (try refine' Ziz)))
      | refine' Zcy
      | (refine AWL.guardU rfl rfl rfl rfl rfl rfl ?_; (try refine' Ziz)))
  | ((with_reducible show True); first
      | exact trivial)
  | ((with_reducible show AW _ _ _ _); first
      | refine' Zbe
      | refine' Zbf
      | ((show AW _ (.region _ _ false) _ _); refine kp ?_; (try refine' Ziz); refine AW.region ?_)
      | refine' Zbg
      | (refine AW.cond rfl (fun hc => ?_) (fun hc => ?_) <;> first | (cases hc; done) | refine' ZbK))
  | ((refine Zdi.mk rfl rfl rfl ?_ ?_ ?_; (focus (first | exact Or.inl rfl | exact Or.inr rfl))) <;> (try simp (disch := omega) only [NSX, St.keepS, Nat.reduceBEq, Nat.reduceAdd, Nat.reduceMul, Int.reduceToNat, Nat.reduceSub, TY, List.set_cons_zero, List.set_cons_succ, SLS, Za, Zag, Zo, F3, nx]))
  | (focus ((first | ((try simp (disch := omega) only [NSX, St.keepS, Nat.reduceBEq, Nat.reduceAdd, Nat.reduceMul, Int.reduceToNat, Nat.reduceSub, TY, List.set_cons_zero, List.set_cons_succ, SLS, Za, Zag, Zo, F3, nx]); (repeat' (first | exact trivial | exact rfl | exact Yaa rfl | refine And.intro ?_ ?_ | fail)); done) | exact trivial | omega | refine' Zbh | refine' Zbi | assumption | refine' ZaZ | (show _ <= _; omega) | refine' Zan | refine' Z9 | ((try simp (disch := omega) only [NSX, St.keepS, Nat.reduceBEq, Nat.reduceAdd, Nat.reduceMul, Int.reduceToNat, Nat.reduceSub, TY, List.set_cons_zero, List.set_cons_succ, SLS, Za, Zag, Zo, F3, nx]); (repeat' (first | exact trivial | exact rfl | exact ⟨_, _, rfl⟩ | exact ⟨_, rfl⟩ | exact Yaa rfl | exact Nat.zero_lt_succ _ | omega | refine' ZfJ | refine And.intro ?_ ?_ | fail)); done)); done))
  | fail)
 all_goals (try clear nx)
 all_goals (apply_rules (newGoals := .nonDependentOnly) only [dep]; exact ())) : p := h
theorem Zv1 {p : Prop} (h : p := by
 repeat' (first
  | refine' Zf
  | refine' Zm
  | refine' Zk
  | ((first
    | refine' Zaq
    | ((with_reducible show AW _ _ _ _); first | ((fail_if_success (show AW _ (.region 11 _ _) _ _)); (show AW _ (.region _ _ false) _ _); refine kp ?_; refine AW.region ?_))) <;> (try refine' Zy))
  | refine' Ze
  | ((with_reducible show True); exact trivial)
  | refine' Zam
  | refine' Zcz
  | exact sd
  | fail)
 all_goals (try clear nx)
 all_goals (apply_rules (newGoals := .nonDependentOnly) only [dep]; exact ())) : p := h
theorem Zfa {p : Prop} (h : p := by
 repeat' (first
  | ((with_reducible show AWL _ _ _ _ _); first
      | (refine AWL.opN (sl := SL) rfl rfl rfl trivial ?_; (try refine' Zm2))
      | refine' Zbd
      | ((first | (refine AWL.op (sl := SL) rfl rfl ?_ ?_)) <;> (try ((first | show AWL _ _ _ _ _ | show AW _ _ _ _ | show DQ _ _ _ _ _ _ | refine' Zap); (try refine' Zm2)))))
  | ((with_reducible show True); first
      | exact trivial)
  | ((with_reducible show AW _ _ _ _); first
      | refine' Zbe
      | refine' Zbf
      | ((show AW _ (.region _ _ false) _ _); refine kp ?_; (try refine' Zm2); refine AW.region ?_)
      | refine' Zbg
      | (refine AW.cond rfl (fun hc => ?_) (fun hc => ?_) <;> first | (cases hc; done) | refine' ZbK))
  | ((refine Zdi.mk rfl rfl rfl ?_ ?_ ?_; (focus (first | exact Or.inl rfl | exact Or.inr rfl))) <;> (try simp (disch := omega) only [NSX, St.keepS, Nat.reduceBEq, Nat.reduceAdd, Nat.reduceMul, Int.reduceToNat, Nat.reduceSub, TY, List.set_cons_zero, List.set_cons_succ, SLS, Za, Zag, Zo, Y4, nx]))
  | exact sd
  | fail)
 all_goals (try clear nx)
 all_goals (apply_rules (newGoals := .nonDependentOnly) only [dep]; exact ())) : p := h
theorem Zfb {p : Prop} (h : p := by
 repeat' (first
  | refine' Zbt
  | refine' Zbu
  | refine' Zf
  | refine' Zbv
  | ((first
    | refine' ZbT
    | refine' ZsJ
    | refine' Zj6
    | refine' Zbw
    | refine' ZfI) <;> (try refine' Zeu))
  | refine' Ze
  | refine' Zbx
  | refine' Zal
  | exact sd
  | fail)
 all_goals (try clear nx)
 all_goals (apply_rules (newGoals := .nonDependentOnly) only [dep]; exact ())) : p := h
theorem ZdZ {p : Prop} (h : p := by
 repeat' (first
  | ((with_reducible show AWL _ _ _ _ _); first
      | (refine AWL.opN (sl := SL) rfl rfl rfl trivial ?_; (try refine' ZcQ))
      | refine' Zbd
      | ((first | (refine AWL.allocF (t := 182) rfl rfl rfl rfl rfl rfl ?_) | (refine AWL.op (sl := SL) rfl rfl ?_ ?_) | refine' ZeC | (refine AWL.callV (f := 161) rfl rfl rfl rfl ?_ (Yaa rfl) rfl (Zpc) ?_; (focus kernel_rfl)) | (refine AWL.call (f := 161) rfl rfl rfl ?_ rfl (Yaa rfl) rfl (Zpc) ?_; (focus kernel_rfl)) | (refine AWL.callV (f := 162) rfl rfl rfl rfl ?_ (Yaa rfl) rfl (hwords) ?_; (focus kernel_rfl)) | (refine AWL.call (f := 162) rfl rfl rfl ?_ rfl (Yaa rfl) rfl (hwords) ?_; (focus kernel_rfl)) | (refine AWL.callV (f := 163) rfl rfl rfl rfl ?_ (Yaa rfl) rfl (ZiS _ _ ?_ ?_) ?_; (focus kernel_rfl)) | (refine AWL.call (f := 163) rfl rfl rfl ?_ rfl (Yaa rfl) rfl (ZiS _ _ ?_ ?_) ?_; (focus kernel_rfl)) | (refine AWL.callV (f := 164) rfl rfl rfl rfl ?_ (Yaa rfl) rfl (Zpf _ ?_) ?_; (focus kernel_rfl)) | (refine AWL.call (f := 164) rfl rfl rfl ?_ rfl (Yaa rfl) rfl (Zpf _ ?_) ?_; (focus kernel_rfl))) <;> (try ((first | show AWL _ _ _ _ _ | show AW _ _ _ _ | show FW _ _ _ _ _ _ _ _ _ _ | show CW _ _ _ _ _ _ _ _ _ _ _ _ | refine' Zap); (try refine' ZcQ))))
      | (refine AWL.guard2 rfl rfl rfl rfl rfl rfl ?_ ?_ <;> (intro hc; (try simp only [Bool.not_true, Bool.not_false] at hc); first | (cases hc; done) | refine' Zez) <;> (try (first | refine' Zdk | refine' ZiK); (try refine' ZcQ)))
      | refine' Zcy
      | (refine AWL.guardU rfl rfl rfl rfl rfl rfl ?_; (try refine' ZcQ)))
  | ((with_reducible show CWr _ _ _ _ _ _ _ _ _ _ _ _ _ _); first
      | ((first | (refine CWr.allocF (t := 182) rfl rfl rfl ?_ ?_) | (refine CWr.op rfl ?_ ?_ ?_) | (refine CWr.alloc rfl rfl rfl rfl ?_) | (refine CWr.call (f := 163) rfl ?_ rfl (ZiS _ _ ?_ ?_) (fun _ _ h => h) ?_ ?_ ?_; (focus kernel_rfl))) <;> (try ((first | show AWL _ _ _ _ _ | show AW _ _ _ _ | show FW _ _ _ _ _ _ _ _ _ _ | show CW _ _ _ _ _ _ _ _ _ _ _ _ | refine' Zap); (try refine' ZcQ)))))
  | ((with_reducible show CW _ _ _ _ _ _ _ _ _ _ _ _); first
      | refine CW.skip rfl rfl ?_
      | refine CW.step rfl rfl rfl rfl rfl ?_
      | refine' Zm9
      | refine CW.tail rfl ?_)
  | ((with_reducible show True); first
      | exact trivial)
  | ((with_reducible show ZmA _ _ _ _ _ _); first
      | ((repeat' (first | exact trivial | exact Or.inr (Or.inl rfl) | exact Or.inl rfl | exact Or.inr (Or.inr rfl) | refine And.intro ?_ ?_)); done))
  | ((with_reducible show Zc4 _ _ _ = true); first
      | kernel_rfl)
  | ((with_reducible show FW _ _ _ _ _ _ _ _ _ _); first
      | refine FW.pass rfl rfl ?_
      | refine FW.go rfl ?_
      | refine FW.nil ?_
      | ((first | (refine FW.float rfl rfl rfl rfl rfl ?_)) <;> (try ((first | show AWL _ _ _ _ _ | show AW _ _ _ _ | show FW _ _ _ _ _ _ _ _ _ _ | show CW _ _ _ _ _ _ _ _ _ _ _ _ | refine' Zap); (try refine' ZcQ)))))
  | ((with_reducible show AW _ _ _ _); first
      | refine' Zbe
      | refine' Zbf
      | ((show AW _ (.region _ _ false) _ _); refine kp ?_; (try refine' ZcQ); refine AW.region ?_)
      | refine' Zbg
      | refine' Zna
      | (((show AW _ (.region 7 _ true) _ _); refine kp ?_; (try refine' ZcQ); refine AW.calm false [] [7] (id := 7) ZfU ?hpan ?hchkc rfl ?_; (case hchkc => (as_aux_lemma => kernel_rfl)); (case hpan => exact (by first | first | assumption | exact Z2 | exact Zx | refine' Zey | refine' ZgT | refine' Zkb))); (try refine' ZcQ))
      | (((show AW _ (.region _ _ true) _ _); refine kp ?_; (try refine' ZcQ); refine AW.calm false [] [] ZfU ?hpan ?hchkc rfl ?_; (case hchkc => (as_aux_lemma => kernel_rfl)); (case hpan => exact (by first | first | assumption | exact Z2 | exact Zx | refine' Zey | refine' ZgT | refine' Zkb))); (try refine' ZcQ)))
  | ((refine Zdi.mk rfl rfl rfl ?_ ?_ ?_; (focus (first | exact Or.inl rfl | exact Or.inr rfl))) <;> (try simp (disch := omega) only [NSX, St.keepS, Nat.reduceBEq, Nat.reduceAdd, Nat.reduceMul, Int.reduceToNat, Nat.reduceSub, TY, List.set_cons_zero, List.set_cons_succ, SLS, Za, Zag, Zo, R5, R8, Zqd, nx]))
  | exact sd
  | fail)
 all_goals (try clear nx)
 all_goals (apply_rules (newGoals := .nonDependentOnly) only [dep]; exact ())) : p := h
theorem Zv2 {p : Prop} (h : p := by
 repeat' (first
  | refine' Zf
  | refine' ZiI
  | refine' Zk
  | ((first
    | refine' ZbT
    | refine' Zsu) <;> (try refine' ZiD))
  | refine' Ze
  | ((with_reducible show True); exact trivial)
  | refine' ZiJ
  | exact sd
  | fail)
 all_goals (try clear nx)
 all_goals (apply_rules (newGoals := .nonDependentOnly) only [dep]; exact ())) : p := h
theorem ZoY {p : Prop} (h : p := by
 repeat' (first
  | ((with_reducible show AWL _ _ _ _ _); first
      | refine' Zsp
      | refine' Zbd
      | ((first | (refine AWL.op (sl := SL) rfl rfl ?_ ?_) | refine' ZeC) <;> (try ((first | show AWL _ _ _ _ _ | show AW _ _ _ _ | show DQ _ _ _ _ _ _ | refine' Zap); (try refine' ZfE))))
      | refine' Zsq
      | refine' Zcy
      | (refine AWL.guardU rfl rfl rfl rfl rfl rfl ?_; (try refine' ZfE)))
  | ((with_reducible show True); first
      | exact trivial)
  | ((with_reducible show AW _ _ _ _); first
      | refine' Zbe
      | refine' Zbf
      | refine' Zsr
      | refine' Zbg
      | (refine AW.cond rfl (fun hc => ?_) (fun hc => ?_) <;> first | (cases hc; done) | refine' ZbK))
  | refine' Zss
  | exact sd
  | fail)
 all_goals (try clear nx)
 all_goals (apply_rules (newGoals := .nonDependentOnly) only [dep]; exact ())) : p := h
theorem Zv3 {p : Prop} (h : p := by
 repeat' (first
  | refine' Zf
  | refine' Zk
  | ((first
    | refine' ZbT
    | refine' Zcy) <;> (try refine' ZdR))
  | refine' Ze
  | ((with_reducible show True); exact trivial)
  | refine' Zal
  | exact sd
  | fail)
 all_goals (try clear nx)
 all_goals (apply_rules (newGoals := .nonDependentOnly) only [dep]; exact ())) : p := h
theorem Zv4 {p : Prop} (h : p := by
 repeat' (first
  | ((with_reducible show AWL _ _ _ _ _); first
      | (refine AWL.opN (sl := SL) rfl rfl rfl trivial ?_; (try refine' Zm0))
      | refine' Zbd
      | ((first | (refine AWL.op (sl := SL) rfl rfl ?_ ?_) | refine' ZeC | refine' Zkc | refine' Zkd) <;> (try ((first | show AWL _ _ _ _ _ | show AW _ _ _ _ | show DQ _ _ _ _ _ _ | refine' Zap); (try refine' Zm0)))))
  | ((with_reducible show True); first
      | exact trivial)
  | ((with_reducible show AW _ _ _ _); first
      | refine' Zbe
      | refine' Zbf
      | ((show AW _ (.region _ _ false) _ _); refine kp ?_; (try refine' Zm0); refine AW.region ?_)
      | refine' Zbg
      | (refine AW.cond rfl (fun hc => ?_) (fun hc => ?_) <;> first | (cases hc; done) | refine' ZbK))
  | ((refine Zdi.mk rfl rfl rfl ?_ ?_ ?_; (focus (first | exact Or.inl rfl | exact Or.inr rfl))) <;> (try simp (disch := omega) only [NSX, St.keepS, Nat.reduceBEq, Nat.reduceAdd, Nat.reduceMul, Int.reduceToNat, Nat.reduceSub, TY, SLS, List.set_cons_zero, List.set_cons_succ, Za, S14, Yap, nx]))
  | exact sd
  | fail)
 all_goals (try clear nx)
 all_goals (apply_rules (newGoals := .nonDependentOnly) only [dep]; exact ())) : p := h
theorem Zv5 {p : Prop} (h : p := by
 repeat' (first
  | refine' Zbt
  | refine' Zbu
  | refine' Zf
  | refine' Zbv
  | ((first
    | refine' Zsi
    | refine' Zj4
    | refine' Zdl
    | refine' Zbw
    | refine' ZfI) <;> (try refine' Zeu))
  | refine' Ze
  | refine' Zbx
  | refine' Zal
  | exact sd
  | fail)
 all_goals (try clear nx)
 all_goals (apply_rules (newGoals := .nonDependentOnly) only [dep]; exact ())) : p := h
theorem ZoZ {p : Prop} (h : p := by
 repeat' (first
  | refine' Zbt
  | refine' Zbu
  | refine' Zf
  | refine' Zm
  | refine' Zbv
  | ((first
    | refine' ZbT
    | refine' Zj4
    | refine' Zj6
    | refine' Zbw
    | refine' ZfH) <;> (try refine' ZiC))
  | refine' Ze
  | refine' Zbx
  | refine' ZgU
  | exact sd
  | fail)
 all_goals (try clear nx)
 all_goals (apply_rules (newGoals := .nonDependentOnly) only [dep]; exact ())) : p := h
theorem Zo0 {p : Prop} (h : p := by
 repeat' (first
  | refine' Zf
  | refine' Zk
  | ((first
    | ((with_reducible show AWL _ _ _ _ _); first | refine' ZaD | refine' ZeD | refine' ZeA | (refine AWL.op (sl := SL) rfl rfl ?_ ?_) | refine' ZcR | refine' ZcS | refine' cl)
    | refine' Zt) <;> (try refine' ZdR))
  | refine' Ze
  | ((with_reducible show True); exact trivial)
  | refine' Zal
  | exact sd
  | fail)
 all_goals (try clear nx)
 all_goals (apply_rules (newGoals := .nonDependentOnly) only [dep]; exact ())) : p := h
theorem Zgf {p : Prop} (h : p := by
 repeat' (first
  | refine' Zbt
  | refine' Zbu
  | refine' Zf
  | refine' Zbv
  | ((first
    | refine' ZbT
    | refine' Zng
    | refine' Zdl
    | refine' Zbw
    | refine' ZfH) <;> (try refine' Zm8))
  | refine' Ze
  | refine' Zbx
  | refine' Zal
  | exact sd
  | fail)
 all_goals (try clear nx)
 all_goals (apply_rules (newGoals := .nonDependentOnly) only [dep]; exact ())) : p := h
theorem Zv6 {p : Prop} (h : p := by
 repeat' (first
  | refine' Zj9
  | refine' Zm
  | refine' Zk
  | ((first
    | refine' Znf
    | refine' Zcy) <;> (try refine' Zy))
  | refine' Ze
  | ((with_reducible show True); exact trivial)
  | fail
  | refine' Zby
  | exact sd
  | fail)
 all_goals (try clear nx)
 all_goals (apply_rules (newGoals := .nonDependentOnly) only [dep]; exact ())) : p := h
theorem Zv7 {p : Prop} (h : p := by
 repeat' (first
  | refine' Zf
  | refine' ZiI
  | refine' Zk
  | ((first
    | refine' ZbT
    | refine' Zsv) <;> (try refine' ZiD))
  | refine' Ze
  | ((with_reducible show True); exact trivial)
  | refine' ZiJ
  | exact sd
  | fail)
 all_goals (try clear nx)
 all_goals (apply_rules (newGoals := .nonDependentOnly) only [dep]; exact ())) : p := h
theorem Zgg {p : Prop} (h : p := by
 repeat' (first
  | refine' Zbz
  | refine' Zf
  | refine' Zm
  | refine' Zk
  | ((first
    | refine' Zaq
    | refine' Zt) <;> (try refine' Zy))
  | refine' Ze
  | ((with_reducible show True); exact trivial)
  | refine' ZsC
  | refine' ZsD
  | refine' Zby
  | exact sd
  | fail)
 all_goals (try clear nx)
 all_goals (apply_rules (newGoals := .nonDependentOnly) only [dep]; exact ())) : p := h
theorem ZhL {p : Prop} (h : p := by
 repeat' (first
  | ((with_reducible show AWL _ _ _ _ _); first
      | (refine AWL.opN (sl := SL) rfl rfl rfl trivial ?_; (try refine' Ziy))
      | refine' Zbd
      | ((first | (refine AWL.op (sl := SL) rfl rfl ?_ ?_)) <;> (try ((first | show AWL _ _ _ _ _ | show AW _ _ _ _ | show DQ _ _ _ _ _ _ | refine' Zap); (try refine' Ziy))))
      | (refine AWL.guard2 rfl rfl rfl rfl rfl rfl ?_ ?_ <;> (intro hc; (try simp only [Bool.not_true, Bool.not_false] at hc); first | (cases hc; done) | refine' Zez) <;> (try (first | refine' Zdk); (try refine' Ziy)))
      | refine' Zcy
      | (refine AWL.guardU rfl rfl rfl rfl rfl rfl ?_; (try refine' Ziy)))
  | ((with_reducible show True); first
      | exact trivial)
  | ((with_reducible show AW _ _ _ _); first
      | refine' Zbe
      | refine' Zbf
      | ((show AW _ (.region _ _ false) _ _); refine kp ?_; (try refine' Ziy); refine AW.region ?_)
      | refine' Zbg
      | (refine AW.cond rfl (fun hc => ?_) (fun hc => ?_) <;> first | (cases hc; done) | refine' ZbK))
  | ((refine Zdi.mk rfl rfl rfl ?_ ?_ ?_; (focus (first | exact Or.inl rfl | exact Or.inr rfl))) <;> (try simp (disch := omega) only [NSX, St.keepS, Nat.reduceBEq, Nat.reduceAdd, Nat.reduceMul, Int.reduceToNat, Nat.reduceSub, TY, List.set_cons_zero, List.set_cons_succ, SLS, Za, Zag, Zo, W4, ZeI, nx]))
  | exact sd
  | fail)
 all_goals (try clear nx)
 all_goals (apply_rules (newGoals := .nonDependentOnly) only [dep]; exact ())) : p := h
theorem Zv8 {p : Prop} (h : p := by
 repeat' (first
  | refine' Zf
  | refine' ZiI
  | refine' Zk
  | ((first
    | refine' ZbT
    | refine' Zst) <;> (try refine' ZiD))
  | refine' Ze
  | ((with_reducible show True); exact trivial)
  | refine' ZiJ
  | exact sd
  | fail)
 all_goals (try clear nx)
 all_goals (apply_rules (newGoals := .nonDependentOnly) only [dep]; exact ())) : p := h
theorem Zkp {p : Prop} (h : p := by
 repeat' (first
  | refine' Zf
  | refine' Zm
  | refine' Zk
  | ((first
    | refine' Zj7
    | refine' Zt
    | refine' ZiG) <;> (try refine' ZfG))
  | refine' Ze
  | refine' ZiH
  | refine' ZiF
  | exact sd
  | fail)
 all_goals (try clear nx)
 all_goals (apply_rules (newGoals := .nonDependentOnly) only [dep]; exact ())) : p := h
theorem ZhM {p : Prop} (h : p := by
 repeat' (first
  | ((with_reducible show AWL _ _ _ _ _); first
      | (refine AWL.opN (sl := SL) rfl rfl rfl trivial ?_; (try refine' Zm1))
      | refine' Zbd
      | ((first | (refine AWL.op (sl := SL) rfl rfl ?_ ?_)) <;> (try ((first | show AWL _ _ _ _ _ | show AW _ _ _ _ | show DQ _ _ _ _ _ _ | refine' Zap); (try refine' Zm1)))))
  | ((with_reducible show True); first
      | exact trivial)
  | ((with_reducible show AW _ _ _ _); first
      | refine' Zbe
      | refine' Zbf
      | ((show AW _ (.region _ _ false) _ _); refine kp ?_; (try refine' Zm1); refine AW.region ?_)
      | refine' Zbg
      | (refine AW.cond rfl (fun hc => ?_) (fun hc => ?_) <;> first | (cases hc; done) | refine' ZbK))
  | ((refine Zdi.mk rfl rfl rfl ?_ ?_ ?_; (focus (first | exact Or.inl rfl | exact Or.inr rfl))) <;> (try simp (disch := omega) only [NSX, St.keepS, Nat.reduceBEq, Nat.reduceAdd, Nat.reduceMul, Int.reduceToNat, Nat.reduceSub, TY, List.set_cons_zero, List.set_cons_succ, SLS, Za, Zag, Zo, N6, nx]))
  | exact sd
  | fail)
 all_goals (try clear nx)
 all_goals (apply_rules (newGoals := .nonDependentOnly) only [dep]; exact ())) : p := h
theorem Zo1 {p : Prop} (h : p := by
 repeat' (first
  | refine' Zf
  | refine' Zm
  | refine' Zdm
  | ((first
    | refine' ZgW
    | ((with_reducible show DQ _ _ _ _ _ _); first | (refine DQ.op rfl rfl rfl rfl rfl ?_ ?_) | refine' ZeB | refine' ZsS | refine' Znh | refine' Zni | refine DQ.tail rfl ?_)
    | refine' Zdn
    | refine' ZsH) <;> (try refine' Zy))
  | refine' Ze
  | ((with_reducible show True); exact trivial)
  | refine' Zam
  | exact sd
  | fail)
 all_goals (try clear nx)
 all_goals (apply_rules (newGoals := .nonDependentOnly) only [dep]; exact ())) : p := h
theorem Zo2 {p : Prop} (h : p := by
 repeat' (first
  | refine' Zbz
  | refine' Zf
  | refine' Zm
  | refine' Znk
  | ((first
    | refine' Zka
    | refine' Znj
    | refine' Znl
    | ((with_reducible show AW _ _ _ _); first | refine' ZsT | ((fail_if_success (show AW _ (.region 32 _ _) _ _)); (show AW _ (.region 28 _ true) _ _); refine kp ?_; refine AW.drawK (l1 := ?l1) (l2 := ?l2) 10 ZfU ?hck ?h1 ?h2 ?_; (case hck => kernel_rfl); (case h1 => ((simp only [List.take_succ_cons, List.take_zero]) <;> exact rfl)); (case h2 => ((simp only [List.drop_succ_cons, List.drop_zero]) <;> exact rfl))) | ((fail_if_success (show AW _ (.region 32 _ _) _ _)); (show AW _ (.region _ _ true) _ _); refine kp ?_; refine AW.drawn true ZfU ?_ ?_; (focus kernel_rfl)))
    | (first | (refine DQ.yes rfl ?_ ?_))) <;> (try refine' Zev))
  | refine' Ze
  | ((with_reducible show True); exact trivial)
  | refine' Zam
  | exact sd
  | fail)
 all_goals (try clear nx)
 all_goals (apply_rules (newGoals := .nonDependentOnly) only [dep]; exact ())) : p := h
theorem Zv9 {p : Prop} (h : p := by
 repeat' (first
  | refine' Zf
  | refine' ZiI
  | refine' Zk
  | ((first
    | refine' ZbT
    | ((with_reducible show AW _ _ _ _); first | ((fail_if_success (show AW _ (.region 2 _ _) _ _)); (show AW _ (.region _ _ false) _ _); refine kp ?_; refine AW.region ?_))) <;> (try refine' ZiD))
  | refine' Ze
  | ((with_reducible show True); exact trivial)
  | refine' ZiJ
  | exact sd
  | fail)
 all_goals (try clear nx)
 all_goals (apply_rules (newGoals := .nonDependentOnly) only [dep]; exact ())) : p := h
theorem Zwa {p : Prop} (h : p := by
 repeat' (first
  | refine' Zf
  | refine' Zm
  | refine' Zk
  | ((first
    | ((with_reducible show AWL _ _ _ _ _); first | refine' ZaD | (refine AWL.op (sl := SL) rfl rfl ?_ ?_) | refine AWL.pan rfl rfl rfl ⟨_, _, rfl⟩ ?_ | refine' Znv | refine' cl)
    | refine' Zt) <;> (try refine' Zy))
  | refine' Ze
  | ((with_reducible show True); exact trivial)
  | refine' Zsw
  | refine' Zsx
  | refine' Zby
  | exact sd
  | fail)
 all_goals (try clear nx)
 all_goals (apply_rules (newGoals := .nonDependentOnly) only [dep]; exact ())) : p := h
theorem Zkq {p : Prop} (h : p := by
 repeat' (first
  | refine' Zbz
  | refine' Zf
  | refine' Zm
  | refine' Zk
  | ((first
    | refine' Zaq
    | refine' Zt) <;> (try refine' Zy))
  | refine' Ze
  | ((with_reducible show True); exact trivial)
  | refine' Zam
  | exact sd
  | fail)
 all_goals (try clear nx)
 all_goals (apply_rules (newGoals := .nonDependentOnly) only [dep]; exact ())) : p := h
theorem ZcG {p : Prop} (h : p := by
 repeat' (first
  | refine' Zf
  | refine' Zk
  | ((first
    | ((with_reducible show AWL _ _ _ _ _); first | refine' ZaD | refine' ZeD | refine' ZeA | (refine AWL.op (sl := SL) rfl rfl ?_ ?_) | refine' ZcR | refine' ZcS | refine' ZbS | refine AWL.guardU rfl rfl rfl rfl rfl rfl ?_ | refine' cl)
    | refine' Zt) <;> (try refine' ZdR))
  | refine' Ze
  | ((with_reducible show True); exact trivial)
  | refine' Zal
  | exact sd
  | fail)
 all_goals (try clear nx)
 all_goals (apply_rules (newGoals := .nonDependentOnly) only [dep]; exact ())) : p := h
theorem Zkr {p : Prop} (h : p := by
 repeat' (first
  | refine' Zbt
  | refine' Zbu
  | refine' Zf
  | refine' Zm
  | refine' Zbv
  | ((first
    | refine' ZgV
    | ((with_reducible show CWr _ _ _ _ _ _ _ _ _ _ _ _ _ _); first | (refine CWr.op rfl ?_ ?_ ?_) | (refine CWr.assign rfl ?_ ?_) | (refine CWr.call (f := 75) rfl ?_ rfl (hu) (fun _ _ h => h) ?_ ?_ ?_; (focus kernel_rfl)))
    | refine' Zdl
    | refine' Zbw
    | refine' ZfH) <;> (try refine' ZiC))
  | refine' Ze
  | refine' Zbx
  | refine' ZgU
  | exact sd
  | fail)
 all_goals (try clear nx)
 all_goals (apply_rules (newGoals := .nonDependentOnly) only [dep]; exact ())) : p := h
theorem Zo3 {p : Prop} (h : p := by
 repeat' (first
  | refine' Zbt
  | refine' Zbu
  | refine' Zf
  | refine' Zbv
  | ((first
    | refine' Znb
    | refine' Zng
    | refine' Zdl
    | refine' Zbw
    | ((with_reducible show AW _ _ _ _); first | refine' Zex | ((show AW _ (.region _ _ true) _ _); refine kp ?_; refine AW.calm false [] [] ZfU ?hpan ?hchkc rfl ?_; (case hchkc => (as_aux_lemma => kernel_rfl)); (case hpan => (first | assumption | exact Z2 | exact Zx | exact Zbp | refine' ZsA | exact Zat (by assumption)))))) <;> (try refine' Zeu))
  | refine' Ze
  | refine' Zbx
  | refine' Zal
  | exact sd
  | fail)
 all_goals (try clear nx)
 all_goals (apply_rules (newGoals := .nonDependentOnly) only [dep]; exact ())) : p := h
theorem Zks {p : Prop} (h : p := by
 repeat' (first
  | refine' Zbz
  | refine' Zf
  | refine' Zm
  | refine' Zdm
  | ((first
    | refine' ZgW
    | ((with_reducible show DQ _ _ _ _ _ _); first | (refine DQ.op rfl rfl rfl rfl rfl ?_ ?_) | refine' ZeB | (refine DQ.step rfl rfl rfl rfl (Zb2.call (f := 121) rfl ?_ rfl (hutf) (fun _ _ h => h) (fun _ => rfl)) ?_; (focus kernel_rfl)) | refine' Znh | refine' Zni | refine DQ.tail rfl ?_)
    | refine' Zdn
    | (first | (refine DQ.yes rfl ?_ ?_) | (refine DQ.yesC (Zb2.call (f := 121) rfl ?_ rfl (hutf) (fun _ _ h => h) (fun _ => rfl)) ?_; (focus kernel_rfl)))) <;> (try refine' Zy))
  | refine' Ze
  | ((with_reducible show True); exact trivial)
  | refine' Zam
  | exact sd
  | fail)
 all_goals (try clear nx)
 all_goals (apply_rules (newGoals := .nonDependentOnly) only [dep]; exact ())) : p := h
theorem ZgZ {p : Prop} (h : p := by
 repeat' (first
  | refine' Zbt
  | refine' Zbu
  | refine' Zf
  | refine' Zbv
  | ((first
    | ((with_reducible show AWL _ _ _ _ _); first | refine' ZaD | (refine AWL.op (sl := SL) rfl rfl ?_ ?_) | refine AWL.pan rfl rfl rfl ⟨_, _, rfl⟩ ?_ | refine' Znv | refine AWL.mkM rfl rfl rfl rfl ?_ | refine' ZbS | refine AWL.guardU rfl rfl rfl rfl rfl rfl ?_ | refine' cl)
    | ((with_reducible show CWr _ _ _ _ _ _ _ _ _ _ _ _ _ _); first | (refine CWr.op rfl ?_ ?_ ?_) | (refine CWr.build0 rfl rfl ?_ ?_) | (refine CWr.app0 rfl rfl rfl rfl ?_ rfl ?_ ?_ ?_) | (refine CWr.assign rfl ?_ ?_) | (refine CWr.alloc rfl rfl rfl rfl ?_) | (refine CWr.build rfl rfl rfl rfl ?_ rfl rfl rfl ?_) | refine' ZiO | refine' Zkf | refine' Zkg | refine' Znr)
    | refine' Zj6
    | refine' Zbw
    | ((with_reducible show AW _ _ _ _); first | ((show AW _ (.region _ _ false) _ _); refine AW.region ?_) | ((show AW _ (.region _ _ true) _ _); refine AW.calm true [] [] ZfU ?hpan ?hchkc rfl ?_; (case hchkc => (as_aux_lemma => kernel_rfl)); (case hpan => (first | assumption | exact Z2 | exact Zx | exact Zbp | refine' ZsA | exact Zat (by assumption)))))) <;> (try refine' Zeu))
  | refine' Ze
  | refine' Zbx
  | refine' Zal
  | exact sd
  | fail)
 all_goals (try clear nx)
 all_goals (apply_rules (newGoals := .nonDependentOnly) only [dep]; exact ())) : p := h
theorem Zo4 {p : Prop} (h : p := by
 repeat' (first
  | refine' Zf
  | refine' Zk
  | ((first
    | refine' ZbT
    | refine' Zt) <;> (try refine' ZdS))
  | refine' Ze
  | ((with_reducible show True); exact trivial)
  | refine' Zal
  | exact sd
  | fail)
 all_goals (try clear nx)
 all_goals (apply_rules (newGoals := .nonDependentOnly) only [dep]; exact ())) : p := h
theorem Zj {p : Prop} (h : p := by
 repeat' (first
  | refine' Zbz
  | refine' Zf
  | refine' Zm
  | refine' Zk
  | ((first
    | refine' Zaq
    | refine' Zt) <;> (try refine' Zy))
  | refine' Ze
  | ((with_reducible show True); exact trivial)
  | refine' ZdT
  | refine' ZdU
  | refine' Zby
  | exact sd
  | fail)
 all_goals (try clear nx)
 all_goals (apply_rules (newGoals := .nonDependentOnly) only [dep]; exact ())) : p := h
theorem Za0 {p : Prop} (h : p := by
 repeat' (first
  | refine' Zbt
  | refine' Zbu
  | refine' Zf
  | refine' Zbv
  | ((first
    | refine' ZsB
    | ((with_reducible show CWr _ _ _ _ _ _ _ _ _ _ _ _ _ _); first | (refine CWr.op rfl ?_ ?_ ?_) | refine' ZiO | refine' Zkf | refine' Zkg | refine' Znr)
    | refine' Zj6
    | refine' Zbw
    | refine' ZfI) <;> (try refine' Zeu))
  | refine' Ze
  | refine' Zbx
  | refine' Zal
  | exact sd
  | fail)
 all_goals (try clear nx)
 all_goals (apply_rules (newGoals := .nonDependentOnly) only [dep]; exact ())) : p := h
theorem Zkt {p : Prop} (h : p := by
 repeat' (first
  | refine' Zbz
  | refine' Zf
  | refine' Zm
  | refine' Zdm
  | ((first
    | refine' Zaq
    | ((with_reducible show DQ _ _ _ _ _ _); first | (refine DQ.op rfl rfl rfl rfl rfl ?_ ?_) | refine' ZeB | (refine DQ.step rfl rfl rfl rfl (Zb2.call (f := 137) rfl ?_ rfl (hread) (fun _ _ h => h) (fun _ => rfl)) ?_; (focus kernel_rfl)) | refine DQ.tail rfl ?_)
    | refine' Zdn
    | (first | (refine DQ.yes rfl ?_ ?_) | (refine DQ.yesC (Zb2.call (f := 137) rfl ?_ rfl (hread) (fun _ _ h => h) (fun _ => rfl)) ?_; (focus kernel_rfl)))) <;> (try refine' Zy))
  | refine' Ze
  | ((with_reducible show True); exact trivial)
  | refine' Zam
  | exact sd
  | fail)
 all_goals (try clear nx)
 all_goals (apply_rules (newGoals := .nonDependentOnly) only [dep]; exact ())) : p := h
theorem Zwb {p : Prop} (h : p := by
 repeat' (first
  | refine' Zf
  | refine' Zk
  | ((first
    | ((with_reducible show AWL _ _ _ _ _); first | refine' ZaD | (refine AWL.op (sl := SL) rfl rfl ?_ ?_) | refine' ZcR | refine' ZcS | refine' ZsG | refine' ZbS | refine AWL.guardU rfl rfl rfl rfl rfl rfl ?_ | refine' cl)
    | refine' Zt) <;> (try refine' ZdS))
  | refine' Ze
  | ((with_reducible show True); exact trivial)
  | refine' Zal
  | (focus ((first | ((try simp (disch := omega) only [NM, Nat.reduceBEq, reduceAdd, reduceMul, Int.reduceToNat, reduceSub, List.set_cons_zero, List.set_cons_succ, nx]); (repeat' (first | exact trivial | exact rfl | exact Yaa rfl | refine And.intro ?_ ?_ | fail)); done) | exact trivial | omega | assumption | refine' ZaZ | (show _ <= _; omega) | refine' Zan | refine' Z9 | refine' ZcT); done))
  | fail)
 all_goals (try clear nx)
 all_goals (apply_rules (newGoals := .nonDependentOnly) only [dep]; exact ())) : p := h
theorem ZbV {p : Prop} (h : p := by
 repeat' (first
  | refine' Zbz
  | refine' Zf
  | refine' Zm
  | refine' Zk
  | ((first
    | refine' ZgW
    | refine' Zt) <;> (try refine' Zy))
  | refine' Ze
  | ((with_reducible show True); exact trivial)
  | refine' Zam
  | exact sd
  | fail)
 all_goals (try clear nx)
 all_goals (apply_rules (newGoals := .nonDependentOnly) only [dep]; exact ())) : p := h
theorem Zwc {p : Prop} (h : p := by
 repeat' (first
  | refine' Zbz
  | refine' Zf
  | refine' Zm
  | refine' Zk
  | ((first
    | refine' ZsQ
    | ((with_reducible show AW _ _ _ _); first | ((fail_if_success (show AW _ (.region 6 _ _) _ _)); (show AW _ (.region _ _ false) _ _); refine kp ?_; refine AW.region ?_))) <;> (try refine' Zev))
  | refine' Ze
  | ((with_reducible show True); exact trivial)
  | refine' Zam
  | exact sd
  | fail)
 all_goals (try clear nx)
 all_goals (apply_rules (newGoals := .nonDependentOnly) only [dep]; exact ())) : p := h
theorem Zku {p : Prop} (h : p := by
 repeat' (first
  | refine' Zbz
  | refine' Zf
  | refine' Zm
  | refine' Zdm
  | ((first
    | refine' Zaq
    | refine' Zj8
    | refine' Zdn
    | (first | (refine DQ.yes rfl ?_ ?_))) <;> (try refine' Zy))
  | refine' Ze
  | ((with_reducible show True); exact trivial)
  | refine' ZdT
  | refine' ZdU
  | refine' Zby
  | exact sd
  | fail)
 all_goals (try clear nx)
 all_goals (apply_rules (newGoals := .nonDependentOnly) only [dep]; exact ())) : p := h
theorem Zwd {p : Prop} (h : p := by
 repeat' (first
  | refine' Zf
  | refine' Zm
  | refine' Zk
  | ((first
    | refine' Zaq
    | refine' Zsv) <;> (try refine' Zy))
  | refine' Ze
  | ((with_reducible show True); exact trivial)
  | refine' Zam
  | refine' Zcz
  | exact sd
  | fail)
 all_goals (try clear nx)
 all_goals (apply_rules (newGoals := .nonDependentOnly) only [dep]; exact ())) : p := h
theorem Zwe {p : Prop} (h : p := by
 repeat' (first
  | refine' Zf
  | refine' Zk
  | ((first
    | refine' Znd
    | refine' Zt) <;> (try refine' ZdS))
  | refine' Ze
  | ((with_reducible show True); exact trivial)
  | refine' Zne
  | exact sd
  | fail)
 all_goals (try clear nx)
 all_goals (apply_rules (newGoals := .nonDependentOnly) only [dep]; exact ())) : p := h
theorem Zkv {p : Prop} (h : p := by
 repeat' (first
  | (refine AWL.opN (sl := SL) rfl rfl rfl trivial ?_; (try refine' Zj2))
  | (refine AW.seqQ ?_; intro Qn hQn)
  | (refine AW.blockQ ?_; intro Qn hQn)
  | refine AW.region ?_
  | refine' Zsj
  | refine FW.nil ?_
  | refine FW.pass rfl rfl ?_
  | refine FW.go rfl ?_
  | refine CW.skip rfl rfl ?_
  | refine CW.step rfl rfl rfl rfl rfl ?_
  | ((first
    | refine' Zsk
    | refine' Zsl
    | refine' Zsm
    | (refine AWL.op (sl := SL) rfl rfl ?_ ?_)
    | (refine FW.float rfl rfl rfl rfl rfl ?_)
    | (refine CWr.op rfl ?_ ?_ ?_)
    | (refine CWr.assign rfl ?_ ?_)
    | (refine CWr.alloc rfl rfl rfl rfl ?_)
    | refine' Zsn
    | fail) <;> (try ((first | show AWL _ _ _ _ _ | show AW _ _ _ _ | show FW _ _ _ _ _ _ _ _ _ _ | show CW _ _ _ _ _ _ _ _ _ _ _ _ | refine' Zap); (try refine' Zj2))))
  | ((first | refine' ZsW | refine' ZsU) <;> (intro hc; (try simp only [Bool.not_true, Bool.not_false] at hc); first | (cases hc; done) | refine' ZsR) <;> (try (first | refine' Zdk | refine' ZiK); (try refine' Zj2)))
  | refine' Zcy
  | ((first | refine' ZsV | refine AWL.guardU rfl rfl rfl rfl rfl rfl ?_ | refine' Zj5); (try refine' Zj2))
  | refine CW.tail rfl ?_
  | refine' Zso
  | ((refine Zdi.mk rfl rfl rfl ?_ ?_ ?_; (focus (first | exact Or.inl rfl | exact Or.inr rfl))) <;> (try simp (disch := omega) only [NSX, Nat.reduceBEq, Nat.reduceAdd, Nat.reduceMul, Int.reduceToNat, Nat.reduceSub, TY, List.set_cons_zero, List.set_cons_succ, SLS, Za, Zag, Zo, nx]))
  | exact sd
  | fail)
 all_goals (try clear nx)
 all_goals (apply_rules (newGoals := .nonDependentOnly) only [dep]; exact ())) : p := h
theorem Zwf {p : Prop} (h : p := by
 repeat' (first
  | refine' Zf
  | refine' Zm
  | refine' Zk
  | ((first
    | refine' ZbT
    | refine' Zt) <;> (try refine' ZfG))
  | refine' Ze
  | ((with_reducible show True); exact trivial)
  | refine' ZiF
  | exact sd
  | fail)
 all_goals (try clear nx)
 all_goals (apply_rules (newGoals := .nonDependentOnly) only [dep]; exact ())) : p := h
theorem Zwg {p : Prop} (h : p := by
 repeat' (first
  | refine' Zf
  | refine' Zk
  | ((first
    | ((with_reducible show AWL _ _ _ _ _); first | refine AWL.frzSt 7005 rfl rfl ?_ | refine' ZaD | (refine AWL.op (sl := SL) rfl rfl ?_ ?_) | refine' ZcR | refine' ZcS | refine' ZbS | refine AWL.guardU rfl rfl rfl rfl rfl rfl ?_ | refine' cl)
    | refine' Zt) <;> (try refine' ZdR))
  | refine' Ze
  | ((with_reducible show True); exact trivial)
  | refine' Zal
  | exact sd
  | fail)
 all_goals (try clear nx)
 all_goals (apply_rules (newGoals := .nonDependentOnly) only [dep]; exact ())) : p := h
theorem Zr {p : Prop} (h : p := by
 repeat' (first
  | refine' Zf
  | refine' Zk
  | ((first
    | ((with_reducible show AWL _ _ _ _ _); first | refine' ZaD | (refine AWL.op (sl := SL) rfl rfl ?_ ?_) | refine' ZcR | refine' ZcS | refine' ZbS | refine AWL.guardU rfl rfl rfl rfl rfl rfl ?_)
    | refine' Zt) <;> (try refine' ZdS))
  | refine' Ze
  | ((with_reducible show True); exact trivial)
  | refine' Zal
  | exact sd
  | fail)
 all_goals (try clear nx)
 all_goals (apply_rules (newGoals := .nonDependentOnly) only [dep]; exact ())) : p := h
theorem Zgh {p : Prop} (h : p := by
 repeat' (first
  | refine' Zbz
  | refine' Zf
  | refine' Zm
  | refine' Zk
  | ((first
    | refine' Zka
    | refine' Zt
    | refine' ZiG) <;> (try refine' Zev))
  | refine' Ze
  | refine' ZiH
  | refine' Zam
  | exact sd
  | fail)
 all_goals (try clear nx)
 all_goals (apply_rules (newGoals := .nonDependentOnly) only [dep]; exact ())) : p := h
theorem ZbH {p : Prop} (h : p := by
 repeat' (first
  | refine' Zf
  | refine' Zm
  | refine' Zk
  | ((first
    | refine' Zaq
    | refine' Zt) <;> (try refine' Zy))
  | refine' Ze
  | ((with_reducible show True); exact trivial)
  | refine' ZdT
  | refine' ZdU
  | refine' Zby
  | exact sd
  | fail)
 all_goals (try clear nx)
 all_goals (apply_rules (newGoals := .nonDependentOnly) only [dep]; exact ())) : p := h
theorem Zwh {p : Prop} (h : p := by
 repeat' (first
  | refine' Zbt
  | refine' Zbu
  | refine' Zf
  | refine' Zbv
  | ((first
    | refine' ZsK
    | refine' ZsJ
    | refine' ZsL
    | refine' Zbw
    | refine' ZfI) <;> (try refine' Zeu))
  | refine' Ze
  | refine' Zbx
  | refine' Zal
  | exact sd
  | fail)
 all_goals (try clear nx)
 all_goals (apply_rules (newGoals := .nonDependentOnly) only [dep]; exact ())) : p := h
theorem Zca.kp : type_of% (@Zs [0, 1, 2, 6, 7, 8, 9, 10, 11, 12, 13]) := @Zs [0, 1, 2, 6, 7, 8, 9, 10, 11, 12, 13]
theorem Znn.sd {p : Prop} (h : p := by first | exact ZFT) : p := h
theorem ZfK.kp : type_of% (@Zs [0, 1, 4, 5]) := @Zs [0, 1, 4, 5]
theorem ZeE.sd {p : Prop} (h : p := by first | exact ZFR) : p := h
theorem ZsX.kp : type_of% (@Zs [0, 1, 4]) := @Zs [0, 1, 4]
theorem ZgY.kp : type_of% (@Zs [0, 2, 3, 4, 5]) := @Zs [0, 2, 3, 4, 5]
theorem Zno.kp : type_of% (@Zs [0, 1, 4, 5, 6, 7]) := @Zs [0, 1, 4, 5, 6, 7]
theorem ZiL.kp : type_of% (@Zs [0, 2, 3, 4]) := @Zs [0, 2, 3, 4]
theorem ZsZ.kp : type_of% (@Zs [0, 2, 3, 4, 5, 6, 7, 8]) := @Zs [0, 2, 3, 4, 5, 6, 7, 8]
theorem ZiN.kp : type_of% (@Zs [0, 2]) := @Zs [0, 2]
theorem Zs8.sd {p : Prop} (h : p := by first | exact ZFL) : p := h
theorem ZcA.kp : type_of% (@Zs [0, 2, 3]) := @Zs [0, 2, 3]
theorem ZsY.sd {p : Prop} (h : p := by first | exact ZFM) : p := h
theorem Zs0.kp : type_of% (@Zs [0, 1, 2]) := @Zs [0, 1, 2]
theorem ZiM.kp : type_of% (@Zs [0, 1]) := @Zs [0, 1]
theorem Zl.sd {p : Prop} (h : p := by first | exact ZoM) : p := h
theorem ZFF.cl {p : Prop} (h : p := by
 first
  | refine AWL.frzG rfl rfl rfl ?_
 all_goals (apply_rules (newGoals := .nonDependentOnly) only [dep]; exact ())) : p := h
theorem Znq.kp : type_of% (@Zs [0]) := @Zs [0]
theorem ZFH.cl {p : Prop} (h : p := by
 first
  | refine AWL.cMP (f := 74) [] Zyc rfl rfl rfl rfl rfl rfl rfl (hfail) ?_ ?_
 all_goals (apply_rules (newGoals := .nonDependentOnly) only [dep]; exact ())) : p := h
theorem Znu.kp : type_of% (@Zs [0, 1, 2, 3, 4]) := @Zs [0, 1, 2, 3, 4]
theorem Zs6.sd {p : Prop} (h : p := by first | exact ZFU) : p := h
theorem ZFE.rt {p : Prop} (h : p := by
 first | (refine AW.frzRet 2 rfl rfl ?_; (try refine' Zi))
 all_goals (apply_rules (newGoals := .nonDependentOnly) only [dep]; exact ())) : p := h
theorem Znp.kp : type_of% (@Zs [0, 1, 2, 6, 7, 8, 9, 10, 99]) := @Zs [0, 1, 2, 6, 7, 8, 9, 10, 99]
theorem Zta.cl {p : Prop} (h : p := by
 first
  | refine AWL.frzG rfl rfl rfl ?_
  | (refine AWL.callV (f := 114) rfl rfl rfl rfl ?_ (Yaa rfl) rfl (w0) ?_; (focus kernel_rfl))
  | refine AWL.cC (f := 114) Zvc rfl rfl rfl rfl rfl rfl (w0) ?_
  | (refine AWL.callV (f := 114) rfl rfl rfl rfl ?_ (Yaa rfl) rfl (w1) ?_; (focus kernel_rfl))
  | refine AWL.cC (f := 114) Zvc rfl rfl rfl rfl rfl rfl (w1) ?_
  | (refine AWL.callV (f := 114) rfl rfl rfl rfl ?_ (Yaa rfl) rfl (w2) ?_; (focus kernel_rfl))
  | refine AWL.cC (f := 114) Zvc rfl rfl rfl rfl rfl rfl (w2) ?_
  | (refine AWL.callV (f := 114) rfl rfl rfl rfl ?_ (Yaa rfl) rfl (w3) ?_; (focus kernel_rfl))
  | refine AWL.cC (f := 114) Zvc rfl rfl rfl rfl rfl rfl (w3) ?_
 all_goals (apply_rules (newGoals := .nonDependentOnly) only [dep]; exact ())) : p := h
theorem ZFW.sd {p : Prop} (h : p := by first | exact ZFX) : p := h
theorem ZiP.sd {p : Prop} (h : p := by first | exact ZFO) : p := h
theorem Zs1.kp : type_of% (@Zs [0, 1, 4, 5, 6, 7, 8, 9]) := @Zs [0, 1, 4, 5, 6, 7, 8, 9]
theorem Zs2.kp : type_of% (@Zs [0, 1, 4, 5, 6]) := @Zs [0, 1, 4, 5, 6]
theorem ZdV.kp : type_of% (@Zs [0, 1, 2, 6, 7, 8]) := @Zs [0, 1, 2, 6, 7, 8]
theorem ZFC.cl {p : Prop} (h : p := by
 first
  | refine AWL.cMP (f := 115) [(0, 0)] Zvd rfl rfl rfl rfl rfl rfl rfl (hcount) ?_ ?_
  | refine AWL.cFP [(0, 0)] rfl rfl rfl rfl hcb rfl rfl rfl rfl (hone) ?_ ?_
 all_goals (apply_rules (newGoals := .nonDependentOnly) only [dep]; exact ())) : p := h
theorem ZFB.rt {p : Prop} (h : p := by
 first | (refine AW.frzRet 6 rfl rfl ?_; (try refine' Zi))
 all_goals (apply_rules (newGoals := .nonDependentOnly) only [dep]; exact ())) : p := h
theorem Zs3.sd {p : Prop} (h : p := by first | exact ZFV) : p := h
theorem Zns.sd {p : Prop} (h : p := by first | exact ZFP) : p := h
theorem Zs4.sd {p : Prop} (h : p := by first | exact ZFN) : p := h
theorem Zs5.sd {p : Prop} (h : p := by first | exact ZFQ) : p := h
theorem ZFI.rt {p : Prop} (h : p := by
 first | (refine AW.frzRet 3000 rfl rfl ?_; (try refine' Zi))
 all_goals (apply_rules (newGoals := .nonDependentOnly) only [dep]; exact ())) : p := h
theorem Ztb.sd {p : Prop} (h : p := by first | exact ZFS) : p := h
theorem Zs9.kp : type_of% (@Zs [0, 1, 2, 3, 6, 8, 9, 10, 11, 12, 13, 14, 15, 16, 17, 18, 19, 20, 21, 22, 23, 24, 25, 26, 27, 28, 29]) := @Zs [0, 1, 2, 3, 6, 8, 9, 10, 11, 12, 13, 14, 15, 16, 17, 18, 19, 20, 21, 22, 23, 24, 25, 26, 27, 28, 29]
theorem ZFK.cl {p : Prop} (h : p := by
 first
  | refine AWL.cM (f := 118) [(0, 0)] Zj0 rfl rfl rfl rfl rfl rfl rfl (hfail) ?_
  | refine AWL.frzG rfl rfl rfl ?_
 all_goals (apply_rules (newGoals := .nonDependentOnly) only [dep]; exact ())) : p := h
theorem ZFD.att {p : Prop} (h : p := by
 first
  | (first | (refine AT.takeM (L := (bA 11 0)) (L' := (bA 11 1)) 0 rfl rfl rfl rfl rfl Zda (by decide +kernel) (by decide +kernel) ?_; (try refine' Zi)) | (refine AT.takeM (L := (bA 11 1)) (L' := (bA 11 3)) 1 rfl rfl rfl rfl rfl Zda (by decide +kernel) (by decide +kernel) ?_; (try refine' Zi)) | (refine AT.takeN (L := (bA 11 3)) (L' := (bA 11 7)) 2 rfl rfl rfl rfl rfl rfl Zda (by decide +kernel) (by decide +kernel) ?_; (try refine' Zi)) | (refine AT.takeF (L := (bA 11 7)) (L' := (bA 11 15)) 3 rfl rfl rfl rfl rfl rfl rfl rfl Zda (by decide +kernel) (by decide +kernel) ?_; (try refine' Zi)) | refine AT.step (L := (bA 11 15)) [4, 5] (by decide +kernel) (by decide) (ZfM ⟨_, (bA 11 31), rfl, (by decide +kernel), ?_⟩ ⟨_, (bA 11 47), rfl, (by decide +kernel), ?_⟩) | refine AT.step (L := (bA 11 47)) [4, 6] (by decide +kernel) (by decide) (ZfM ⟨_, (bA 11 63), rfl, (by decide +kernel), ?_⟩ ⟨_, (bA 11 111), rfl, (by decide +kernel), ?_⟩) | refine AT.step (L := (bA 11 111)) [4] (by decide +kernel) (by decide) (Za8 ⟨_, (bA 11 127), rfl, (by decide +kernel), ?_⟩) | refine AT.step (L := (bA 11 127)) [7] (by decide +kernel) (by decide) (Za8 ⟨_, (bA 11 255), rfl, (by decide +kernel), ?_⟩) | (refine AT.takeN (L := (bA 11 255)) (L' := (bA 11 511)) 8 rfl rfl rfl rfl rfl rfl Zda (by decide +kernel) (by decide +kernel) ?_; (try refine' Zi)) | (refine AT.takeF (L := (bA 11 511)) (L' := (bA 11 1023)) 9 rfl rfl rfl rfl rfl rfl rfl rfl Zda (by decide +kernel) (by decide +kernel) ?_; (try refine' Zi)) | refine AT.step (L := (bA 11 1023)) [10] (by decide +kernel) (by decide) (Za8 ⟨_, (bA 11 2047), rfl, (by decide +kernel), ?_⟩) | refine AT.done (L := (bA 11 2047)) (by decide +kernel) ?_ | refine AT.step (L := (bA 11 63)) [6] (by decide +kernel) (by decide) (Za8 ⟨_, (bA 11 127), rfl, (by decide +kernel), ?_⟩) | refine AT.step (L := (bA 11 31)) [5] (by decide +kernel) (by decide) (Za8 ⟨_, (bA 11 63), rfl, (by decide +kernel), ?_⟩))
 all_goals (apply_rules (newGoals := .nonDependentOnly) only [dep]; exact ())) : p := h
theorem ZFG.att {p : Prop} (h : p := by
 first
  | (first | (refine AT.takeM (L := (bA 12 0)) (L' := (bA 12 1)) 0 rfl rfl rfl rfl rfl Zda (by decide +kernel) (by decide +kernel) ?_; (try refine' Zi)) | (refine AT.takeM (L := (bA 12 1)) (L' := (bA 12 3)) 1 rfl rfl rfl rfl rfl Zda (by decide +kernel) (by decide +kernel) ?_; (try refine' Zi)) | (refine AT.takeN (L := (bA 12 3)) (L' := (bA 12 7)) 2 rfl rfl rfl rfl rfl rfl Zda (by decide +kernel) (by decide +kernel) ?_; (try refine' Zi)) | (refine AT.takeF (L := (bA 12 7)) (L' := (bA 12 15)) 3 rfl rfl rfl rfl rfl rfl rfl rfl Zda (by decide +kernel) (by decide +kernel) ?_; (try refine' Zi)) | (refine AT.takeM (L := (bA 12 15)) (L' := (bA 12 47)) 5 rfl rfl rfl rfl rfl Zda (by decide +kernel) (by decide +kernel) ?_; (try refine' Zi)) | refine AT.step (L := (bA 12 47)) [4, 6] (by decide +kernel) (by decide) (ZfM ⟨_, (bA 12 63), rfl, (by decide +kernel), ?_⟩ ⟨_, (bA 12 111), rfl, (by decide +kernel), ?_⟩) | refine AT.step (L := (bA 12 111)) [4, 7] (by decide +kernel) (by decide) (ZfM ⟨_, (bA 12 127), rfl, (by decide +kernel), ?_⟩ ⟨_, (bA 12 239), rfl, (by decide +kernel), ?_⟩) | refine AT.step (L := (bA 12 239)) [4] (by decide +kernel) (by decide) (Za8 ⟨_, (bA 12 255), rfl, (by decide +kernel), ?_⟩) | refine AT.step (L := (bA 12 255)) [8] (by decide +kernel) (by decide) (Za8 ⟨_, (bA 12 511), rfl, (by decide +kernel), ?_⟩) | (refine AT.takeN (L := (bA 12 511)) (L' := (bA 12 1023)) 9 rfl rfl rfl rfl rfl rfl Zda (by decide +kernel) (by decide +kernel) ?_; (try refine' Zi)) | (refine AT.takeF (L := (bA 12 1023)) (L' := (bA 12 2047)) 10 rfl rfl rfl rfl rfl rfl rfl rfl Zda (by decide +kernel) (by decide +kernel) ?_; (try refine' Zi)) | refine AT.step (L := (bA 12 2047)) [11] (by decide +kernel) (by decide) (Za8 ⟨_, (bA 12 4095), rfl, (by decide +kernel), ?_⟩) | refine AT.done (L := (bA 12 4095)) (by decide +kernel) ?_ | refine AT.step (L := (bA 12 127)) [7] (by decide +kernel) (by decide) (Za8 ⟨_, (bA 12 255), rfl, (by decide +kernel), ?_⟩) | refine AT.step (L := (bA 12 63)) [6] (by decide +kernel) (by decide) (Za8 ⟨_, (bA 12 127), rfl, (by decide +kernel), ?_⟩))
 all_goals (apply_rules (newGoals := .nonDependentOnly) only [dep]; exact ())) : p := h
theorem Zs7.kp : type_of% (@Zs [0, 2, 3, 4, 6, 7, 8, 9, 21, 22, 23]) := @Zs [0, 2, 3, 4, 6, 7, 8, 9, 21, 22, 23]
theorem ZFJ.rt {p : Prop} (h : p := by
 first | (refine AW.frzRet 4 rfl rfl ?_; (try refine' Zi)) | (refine AW.frzRet 2 rfl rfl ?_; (try refine' Zi))
 all_goals (apply_rules (newGoals := .nonDependentOnly) only [dep]; exact ())) : p := h
end
end Go.Abs
