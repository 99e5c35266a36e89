/- A library of mine: what a step list leaves is handed out. -/
import Derived.Test.YtimhmpdfioihlaaGreatDoorGCB
set_option linter.unusedSimpArgs false
set_option linter.unusedVariables false
namespace Go.Abs
open Go Go.RowKit
section
section
variable {P:Program}{C:Ctx}{st st':St}{a:Act}{w:World}{l:List Oper}{o:Oper}{Q:Exit->St->Prop}
def Tok {p:Prop}(_h:p):Type:=Unit
theorem dep {p:Prop}(h:p)(_d:Tok h):p:=h
theorem aI {p q:Prop}(h:p)(k:q):p/\q:=⟨h,k⟩
theorem Z2 (l:List Nat){P:Program}{c:Code}{Q:Exit->St->Prop}{st:St}(h:AW P c Q (st.keepS l)):AW P c Q st:=AW.keepS _ h
@[irreducible] def bA (n m:Nat):Array Bool:=((List.range n).map fun k=>m.testBit k).toArray
theorem Zbt (h:ZcQ Q:=by first|assumption|exact Zh|exact Zd|exact ZaC|exact Zs (by first|assumption|exact Zh|exact Zd|exact ZaC)|exact Zo (by assumption)):ZcQ Q:=h
theorem AW.seqA {x y:Code}(h: ∀Q',QEq Q' (Zbd (AW P y Q) Q)->ZcQ Q'->AW P x Q' st)(hp:ZcQ Q:=by first|assumption|exact Zh|exact Zd|exact ZaC|exact Zs (by first|assumption|exact Zh|exact Zd|exact ZaC)|exact Zo (by assumption)):AW P (.seq x y) Q st:=AW.seqP hp h
theorem AW.blockA {id:Nat}{c:Code}(h: ∀Q',QEq Q' (Go.Abs.blockQ id Q)->ZcQ Q'->AW P c Q' st)(hp:ZcQ Q:=by first|assumption|exact Zh|exact Zd|exact ZaC|exact Zs (by first|assumption|exact Zh|exact Zd|exact ZaC)|exact Zo (by assumption)):AW P (.block id c) Q st:=AW.blockP hp h
end
theorem Zf {p:Prop}(h:p:=by
 (conv=>arg -1;simp(disch:=omega) only[NM,Nat.reduceBEq,reduceAdd,reduceMul,Int.reduceToNat,reduceSub,List.set_cons_zero,List.set_cons_succ,nx])
 all_goals(apply_rules (newGoals:= .nonDependentOnly) only[dep];exact())):p:=h
theorem ZkT {p:Prop}(h:p:=by
 (conv=>arg -1;simp(disch:=omega) only[NSX,Nat.reduceBEq,Nat.reduceAdd,Nat.reduceMul,Int.reduceToNat,Nat.reduceSub,TY,List.set_cons_zero,List.set_cons_succ,SLS,Zb,Zb5,Zas,nx])
 all_goals(apply_rules (newGoals:= .nonDependentOnly) only[dep];exact())):p:=h
theorem ZkU {p:Prop}(h:p:=by
 (conv=>arg -1;simp(disch:=omega) only[NSX,Nat.reduceBEq,Nat.reduceAdd,Nat.reduceMul,Int.reduceToNat,Nat.reduceSub,TY,List.set_cons_zero,List.set_cons_succ,SLS,Zb,Zb5,Zas,O5,O11,nx])
 all_goals(apply_rules (newGoals:= .nonDependentOnly) only[dep];exact())):p:=h
theorem ZtM {p:Prop}(h:p:=by
 (conv=>arg -1;simp(disch:=omega) only[NM,Nat.reduceBEq,reduceAdd,reduceMul,Int.reduceToNat,reduceSub,List.set_cons_zero,List.set_cons_succ,Bool.or_true,Bool.false_or,Bool.true_or,nx])
 all_goals(apply_rules (newGoals:= .nonDependentOnly) only[dep];exact())):p:=h
theorem ZdN {p:Prop}(h:p:=by
 (conv=>arg -1;simp(disch:=omega) only[Zcx,Nat.reduceBEq,reduceAdd,reduceMul,Int.reduceToNat,reduceSub,List.set_cons_zero,List.set_cons_succ,hlo,e4])
 all_goals(apply_rules (newGoals:= .nonDependentOnly) only[dep];exact())):p:=h
theorem Zjc {p:Prop}(h:p:=by
 first
  |with_reducible (first|show AWL _ _ _ _ _|show AW _ _ _ _|show DQ _ _ _ _ _ _)
  |fail
 all_goals(apply_rules (newGoals:= .nonDependentOnly) only[dep];exact())):p:=h
theorem ZhC {p:Prop}(h:p:=by
 first
  |(rintro _ _ ⟨rfl,rfl⟩;(try refine And.intro rfl ?_))
  |fail
 all_goals(apply_rules (newGoals:= .nonDependentOnly) only[dep];exact())):p:=h
theorem Zb1 {p:Prop}(h:p:=by
 first
  |((first|refine' Zjc|refine' ZhC);(try refine' Zf))
  |fail
 all_goals(apply_rules (newGoals:= .nonDependentOnly) only[dep];exact())):p:=h
theorem ZkV {p:Prop}(h:p:=by
 first
  |with_reducible (first|show AWL _ _ _ _ _|show AW _ _ _ _|show FW _ _ _ _ _ _ _ _ _ _|show CW _ _ _ _ _ _ _ _ _ _ _ _)
  |fail
 all_goals(apply_rules (newGoals:= .nonDependentOnly) only[dep];exact())):p:=h
theorem ZdO {p:Prop}(h:p:=by
 first
  |((first|refine' ZkV|(rintro _ _ ⟨⟩;done)|refine' ZhC);(try refine' Zf))
  |fail
 all_goals(apply_rules (newGoals:= .nonDependentOnly) only[dep];exact())):p:=h
theorem ZkW {p:Prop}(h:p:=by
 first
  |(rintro _ _ ⟨rfl,rfl⟩;(try refine And.intro (by kernel_rfl) ?_))
  |fail
 all_goals(apply_rules (newGoals:= .nonDependentOnly) only[dep];exact())):p:=h
theorem Zc0 {p:Prop}(h:p:=by
 first
  |((first|refine' Zjc|refine' ZkW);(try refine' Zf))
  |fail
 all_goals(apply_rules (newGoals:= .nonDependentOnly) only[dep];exact())):p:=h
theorem ZkX {p:Prop}(h:p:=by
 first
  |((first|refine' ZkV|refine' ZhC);(try refine' Zf))
  |fail
 all_goals(apply_rules (newGoals:= .nonDependentOnly) only[dep];exact())):p:=h
theorem ZbK {p:Prop}(h:p:=by
 first
  |((first|refine' Zjc|(rintro _ _ ⟨⟩;done)|refine' ZhC);(try refine' Zf))
  |fail
 all_goals(apply_rules (newGoals:= .nonDependentOnly) only[dep];exact())):p:=h
theorem Zan {p:Prop}(h:p:=by
 first
  |((first|refine' Zjc|(rintro _ _ ⟨⟩;done)|refine' ZkW);(try refine' Zf))
  |fail
 all_goals(apply_rules (newGoals:= .nonDependentOnly) only[dep];exact())):p:=h
theorem Zjd {p:Prop}(h:p:=by
 first
  |((first|refine' ZkV|refine' ZkW);(try refine' Zf))
  |fail
 all_goals(apply_rules (newGoals:= .nonDependentOnly) only[dep];exact())):p:=h
theorem Zje {p:Prop}(h:p:=by
 first
  |((first|refine' Zjc|refine' ZkW);(try refine' ZtM))
  |fail
 all_goals(apply_rules (newGoals:= .nonDependentOnly) only[dep];exact())):p:=h
theorem Zg {p:Prop}(h:p:=by
 first
  |((with_reducible show AW _ _ _ _);first|((first|refine AW.seqA ?_|refine AW.blockA ?_);intro Qn hQn hPn))
  |fail
 all_goals(apply_rules (newGoals:= .nonDependentOnly) only[dep];exact())):p:=h
theorem ZkY {p:Prop}(h:p:=by
 first
  |simp only[Zbd,Go.Abs.blockQ,↓reduceIte,Nat.reduceEqDiff]
  |fail
 all_goals(apply_rules (newGoals:= .nonDependentOnly) only[dep];exact())):p:=h
theorem Zl {p:Prop}(h:p:=by
 first
  |((with_reducible first|show AWL _ _ _ _ _|show AW _ _ _ _);(first|refine AWL.nil ?_|refine AW.skip ?_|refine AW.ret ?_|refine AW.exit ?_);(repeat (first|refine QEq.mp (by assumption) ?_|refine' ZkY)))
  |fail
 all_goals(apply_rules (newGoals:= .nonDependentOnly) only[dep];exact())):p:=h
theorem ZaD {p:Prop}(h:p:=by
 first
  |refine AWL.opN (sl:=SL) rfl rfl rfl trivial ?_
  |fail
 all_goals(apply_rules (newGoals:= .nonDependentOnly) only[dep];exact())):p:=h
theorem ZhD {p:Prop}(h:p:=by
 first
  |((try simp only[hc]);(try simp only[HCX]at hc);(try(exfalso;omega));(try(guard_hyp hc:True;clear hc)))
  |fail
 all_goals(apply_rules (newGoals:= .nonDependentOnly) only[dep];exact())):p:=h
theorem Zb2 {p:Prop}(h:p:=by
 first
  |(refine AWL.guard2 rfl rfl rfl rfl rfl rfl ?_ ?_<;>(intro hc;(try simp only[Bool.not_true,Bool.not_false]at hc);first|(cases hc;done)|refine' ZhD))
  |fail
 all_goals(apply_rules (newGoals:= .nonDependentOnly) only[dep];exact())):p:=h
theorem Zoe {p:Prop}(h:p:=by
 first
  |((with_reducible show AWL _ _ _ _ _);first|refine' ZaD|(refine AWL.op (sl:=SL) rfl rfl ?_ ?_)|refine' Zb2|refine AWL.guardU rfl rfl rfl rfl rfl rfl ?_)
  |fail
 all_goals(apply_rules (newGoals:= .nonDependentOnly) only[dep];exact())):p:=h
theorem Zgl {p:Prop}(h:p:=by
 first
  |((show AW _ (.region _ _ false) _ _);refine kp ?_;refine AW.region ?_)
  |fail
 all_goals(apply_rules (newGoals:= .nonDependentOnly) only[dep];exact())):p:=h
theorem Zu {p:Prop}(h:p:=by
 first
  |((with_reducible show AW _ _ _ _);first|refine' Zgl)
  |fail
 all_goals(apply_rules (newGoals:= .nonDependentOnly) only[dep];exact())):p:=h
theorem Ze {p:Prop}(h:p:=by
 first
  |((with_reducible show AW _ _ _ _);first|(refine AW.cond rfl (fun hc=> ?_) (fun hc=> ?_)<;>first|(cases hc;done)|((try simp only[HCX]at hc);(try(exfalso;omega));(try(guard_hyp hc:True;clear hc)))))
  |fail
 all_goals(apply_rules (newGoals:= .nonDependentOnly) only[dep];exact())):p:=h
theorem Z1 {p:Prop}(h:p:=by
 first
  |((refine Zf4.mk rfl rfl rfl ?_ ?_ ?_;(focus (first|exact Or.inl rfl|exact Or.inr rfl)))<;>(try simp(disch:=omega) only[NM,Nat.reduceBEq,reduceAdd,reduceMul,Int.reduceToNat,reduceSub,List.set_cons_zero,List.set_cons_succ,nx]))
  |fail
 all_goals(apply_rules (newGoals:= .nonDependentOnly) only[dep];exact())):p:=h
theorem ZtN {p:Prop}(h:p:=by
 first
  |((first|refine AW.skip ?_|refine AW.ret ?_|refine AW.exit ?_|refine AWL.nil ?_|refine CW.nil ?_);(repeat (first|refine QEq.mp (by assumption) ?_|refine' ZkY)))
  |fail
 all_goals(apply_rules (newGoals:= .nonDependentOnly) only[dep];exact())):p:=h
theorem ZtO {p:Prop}(h:p:=by
 first
  |(refine AWL.boxF (t:=182) rfl rfl rfl rfl rfl ?_)
  |fail
 all_goals(apply_rules (newGoals:= .nonDependentOnly) only[dep];exact())):p:=h
theorem ZtP {p:Prop}(h:p:=by
 first
  |(refine AWL.allocF (t:=182) rfl rfl rfl rfl rfl rfl ?_)
  |fail
 all_goals(apply_rules (newGoals:= .nonDependentOnly) only[dep];exact())):p:=h
theorem ZtQ {p:Prop}(h:p:=by
 first
  |(refine CWr.allocF (t:=182) rfl rfl rfl ?_ ?_)
  |fail
 all_goals(apply_rules (newGoals:= .nonDependentOnly) only[dep];exact())):p:=h
theorem ZtR {p:Prop}(h:p:=by
 first
  |(refine CWr.build rfl rfl rfl rfl ?_ rfl rfl rfl ?_)
  |fail
 all_goals(apply_rules (newGoals:= .nonDependentOnly) only[dep];exact())):p:=h
theorem ZtS {p:Prop}(h:p:=by
 first
  |(refine AWL.guard2 rfl rfl rfl rfl rfl rfl (fun hc=> ?_) ?_;(cases hc;done))
  |fail
 all_goals(apply_rules (newGoals:= .nonDependentOnly) only[dep];exact())):p:=h
theorem ZtT {p:Prop}(h:p:=by
 first
  |(refine AW.cond rfl (fun hc=> ?_) (fun hc=> ?_)<;>first|(cases hc;done)|((try simp only[beq_iff_eq,bne_iff_ne,Yaz,decide_eq_false_iff_not,Yam,bne_eq_false_iff_eq,ne_eq,Bool.not_eq_true,Bool.not_eq_false,Bool.not_eq_eq_eq_not,Bool.not_true,Bool.not_false,Decidable.not_not,Int.not_lt,Int.not_le]at hc);(try(exfalso;omega));(try(guard_hyp hc:True;clear hc))))
  |fail
 all_goals(apply_rules (newGoals:= .nonDependentOnly) only[dep];exact())):p:=h
theorem Za3 {p:Prop}(h:p:=by
 first
  |((with_reducible show CW _ _ _ _ _ _ _ _ _ _ _ _);first|refine CW.skip rfl rfl ?_|refine CW.step rfl rfl rfl rfl rfl ?_)
  |fail
 all_goals(apply_rules (newGoals:= .nonDependentOnly) only[dep];exact())):p:=h
theorem Za4 {p:Prop}(h:p:=by
 first
  |((with_reducible show FW _ _ _ _ _ _ _ _ _ _);first|refine FW.pass rfl rfl ?_|refine FW.go rfl ?_|refine FW.nil ?_)
  |fail
 all_goals(apply_rules (newGoals:= .nonDependentOnly) only[dep];exact())):p:=h
theorem Za5 {p:Prop}(h:p:=by
 first
  |((with_reducible first|show AWL _ _ _ _ _|show AW _ _ _ _|show CW _ _ _ _ _ _ _ _ _ _ _ _);(first|refine AWL.nil ?_|refine AW.skip ?_|refine AW.ret ?_|refine AW.exit ?_|refine CW.nil ?_);(repeat (first|refine QEq.mp (by assumption) ?_|refine' ZkY)))
  |fail
 all_goals(apply_rules (newGoals:= .nonDependentOnly) only[dep];exact())):p:=h
theorem Zfd {p:Prop}(h:p:=by
 first
  |(refine AWL.ptrNil rfl rfl rfl rfl rfl rfl (by kernel_rfl) ?_)
  |fail
 all_goals(apply_rules (newGoals:= .nonDependentOnly) only[dep];exact())):p:=h
theorem Zfe {p:Prop}(h:p:=by
 first
  |(refine AWL.sliceNil rfl rfl rfl rfl rfl (by kernel_rfl) ?_ ?_;(focus (first|exact trivial|exact Zi8));(intro r hr;cases r<;>first|(have hr:=hr rfl)|(clear hr)))
  |fail
 all_goals(apply_rules (newGoals:= .nonDependentOnly) only[dep];exact())):p:=h
theorem Zof {p:Prop}(h:p:=by
 first
  |((with_reducible show AWL _ _ _ _ _);first|refine' ZaD|(refine AWL.op (sl:=SL) rfl rfl ?_ ?_)|refine' Zfd|refine' Zfe)
  |fail
 all_goals(apply_rules (newGoals:= .nonDependentOnly) only[dep];exact())):p:=h
theorem Zog {p:Prop}(h:p:=by
 first
  |((with_reducible show CWr _ _ _ _ _ _ _ _ _ _ _ _ _ _);first|(refine CWr.op rfl ?_ ?_ ?_))
  |fail
 all_goals(apply_rules (newGoals:= .nonDependentOnly) only[dep];exact())):p:=h
theorem Zc1 {p:Prop}(h:p:=by
 first
  |((with_reducible show CW _ _ _ _ _ _ _ _ _ _ _ _);first|refine CW.tail rfl ?_)
  |fail
 all_goals(apply_rules (newGoals:= .nonDependentOnly) only[dep];exact())):p:=h
theorem Za6 {p:Prop}(h:p:=by
 first
  |((with_reducible show FW _ _ _ _ _ _ _ _ _ _);first|(refine FW.float rfl rfl rfl rfl rfl ?_))
  |fail
 all_goals(apply_rules (newGoals:= .nonDependentOnly) only[dep];exact())):p:=h
theorem Za7 {p:Prop}(h:p:=by
 first
  |((with_reducible show True);exact trivial)|((with_reducible show Zrt _ _ _ _ _ _);(repeat' (first|exact trivial|exact Or.inr (Or.inl rfl)|exact Or.inl rfl|exact Or.inr (Or.inr rfl)|refine And.intro ?_ ?_));done)|((with_reducible show Ze1 _ _ _=true);kernel_rfl)
  |fail
 all_goals(apply_rules (newGoals:= .nonDependentOnly) only[dep];exact())):p:=h
theorem ZkZ {p:Prop}(h:p:=by
 first
  |((with_reducible show AWL _ _ _ _ _);first|refine' ZaD|(refine AWL.op (sl:=SL) rfl rfl ?_ ?_))
  |fail
 all_goals(apply_rules (newGoals:= .nonDependentOnly) only[dep];exact())):p:=h
theorem ZhE {p:Prop}(h:p:=by
 first
  |((with_reducible show AWL _ _ _ _ _);first|refine' ZaD|(refine AWL.op (sl:=SL) rfl rfl ?_ ?_)|refine' Zb2|refine AWL.guardU rfl rfl rfl rfl rfl rfl ?_|refine' cl)
  |fail
 all_goals(apply_rules (newGoals:= .nonDependentOnly) only[dep];exact())):p:=h
theorem Zx {p:Prop}(h:p:=by
 first
  |((with_reducible show AWL _ _ _ _ _);refine AWL.lentD rfl rfl ?_;(try refine' Zf))
  |fail
 all_goals(apply_rules (newGoals:= .nonDependentOnly) only[dep];exact())):p:=h
theorem ZhF {p:Prop}(h:p:=by
 first
  |((refine ZjX.mk [0,1002] rfl rfl rfl rfl ?_ ?_ ?_ ?_;(focus (first|exact Or.inl rfl|exact Or.inr rfl));(focus (repeat (first|exact List.forall_mem_nil _|refine Ya5.2 ⟨rfl,?_⟩))))<;>(try simp(disch:=omega) only[NM,Nat.reduceBEq,reduceAdd,reduceMul,Int.reduceToNat,reduceSub,List.set_cons_zero,List.set_cons_succ,nx]))
  |fail
 all_goals(apply_rules (newGoals:= .nonDependentOnly) only[dep];exact())):p:=h
theorem ZaS {p:Prop}(h:p:=by
 first
  |((with_reducible show AWL _ _ _ _ _);first|refine' ZaD|(refine AWL.op (sl:=SL) rfl rfl ?_ ?_)|refine' Zfd|refine' Zfe|refine' Zb2|refine AWL.guardU rfl rfl rfl rfl rfl rfl ?_|refine' cl)
  |fail
 all_goals(apply_rules (newGoals:= .nonDependentOnly) only[dep];exact())):p:=h
theorem Zjf {p:Prop}(h:p:=by
 first
  |((with_reducible show CWr _ _ _ _ _ _ _ _ _ _ _ _ _ _);first|(refine CWr.op rfl ?_ ?_ ?_)|(refine CWr.assign rfl ?_ ?_))
  |fail
 all_goals(apply_rules (newGoals:= .nonDependentOnly) only[dep];exact())):p:=h
theorem Zoh {p:Prop}(h:p:=by
 first
  |exact Zs (by first|assumption|exact Zh|exact Zd|exact ZaC)
  |fail
 all_goals(apply_rules (newGoals:= .nonDependentOnly) only[dep];exact())):p:=h
theorem Zff {p:Prop}(h:p:=by
 first
  |((with_reducible show AW _ _ _ _);first|refine' Zgl|((show AW _ (.region _ _ true) _ _);refine kp ?_;refine AW.calm true [] [] Zjo ?hpan ?hchkc rfl ?_;(case hchkc=>(as_aux_lemma=>kernel_rfl));(case hpan=>(first|assumption|exact Zh|exact Zd|exact ZaC|refine' Zoh|exact Zo (by assumption)))))
  |fail
 all_goals(apply_rules (newGoals:= .nonDependentOnly) only[dep];exact())):p:=h
theorem Zoi {p:Prop}(h:p:=by
 first
  |(refine AWL.boxF (t:=185) rfl rfl rfl rfl rfl ?_)
  |fail
 all_goals(apply_rules (newGoals:= .nonDependentOnly) only[dep];exact())):p:=h
theorem Zk0 {p:Prop}(h:p:=by
 first
  |(refine AWL.allocF (t:=185) rfl rfl rfl rfl rfl rfl ?_)
  |fail
 all_goals(apply_rules (newGoals:= .nonDependentOnly) only[dep];exact())):p:=h
theorem Zoj {p:Prop}(h:p:=by
 first
  |((with_reducible show AWL _ _ _ _ _);first|refine' ZaD|refine' Zoi|refine' Zk0|(refine AWL.op (sl:=SL) rfl rfl ?_ ?_)|refine' Zfd|refine' Zfe|refine' Zb2|refine AWL.guardU rfl rfl rfl rfl rfl rfl ?_|refine' cl)
  |fail
 all_goals(apply_rules (newGoals:= .nonDependentOnly) only[dep];exact())):p:=h
theorem ZtU {p:Prop}(h:p:=by
 first
  |((with_reducible show AW _ _ _ _);first|((fail_if_success (show AW _ (.region 3 _ _) _ _));(show AW _ (.region _ _ false) _ _);refine kp ?_;refine AW.region ?_))
  |fail
 all_goals(apply_rules (newGoals:= .nonDependentOnly) only[dep];exact())):p:=h
theorem Zok {p:Prop}(h:p:=by
 first
  |((refine ZjX.mk [6] rfl rfl rfl rfl ?_ ?_ ?_ ?_;(focus (first|exact Or.inl rfl|exact Or.inr rfl));(focus (repeat (first|exact List.forall_mem_nil _|refine Ya5.2 ⟨rfl,?_⟩))))<;>(try simp(disch:=omega) only[NM,Nat.reduceBEq,reduceAdd,reduceMul,Int.reduceToNat,reduceSub,List.set_cons_zero,List.set_cons_succ,nx]))
  |fail
 all_goals(apply_rules (newGoals:= .nonDependentOnly) only[dep];exact())):p:=h
theorem ZdP {p:Prop}(h:p:=by
 first
  |((with_reducible show AT _ _ _ _ _ _);refine' att)
  |fail
 all_goals(apply_rules (newGoals:= .nonDependentOnly) only[dep];exact())):p:=h
theorem ZdQ {p:Prop}(h:p:=by
 first
  |((with_reducible show True);exact trivial)|((with_reducible show ATQ _ _ _ _);show AT _ _ _ _ _ _)
  |fail
 all_goals(apply_rules (newGoals:= .nonDependentOnly) only[dep];exact())):p:=h
theorem Zol {p:Prop}(h:p:=by
 first
  |exact Zs (by first|assumption|exact Zh|exact Zd)
  |fail
 all_goals(apply_rules (newGoals:= .nonDependentOnly) only[dep];exact())):p:=h
theorem Zfg {p:Prop}(h:p:=by
 first
  |((with_reducible show AW _ _ _ _);first|refine' Zgl|((show AW _ (.region _ _ true) _ _);refine kp ?_;refine AW.calm true [] [] Zjo ?hpan ?hchkc rfl ?_;(case hchkc=>(as_aux_lemma=>kernel_rfl));(case hpan=>(first|assumption|exact Zh|exact Zd|refine' Zol|exact Zo (by assumption)))))
  |fail
 all_goals(apply_rules (newGoals:= .nonDependentOnly) only[dep];exact())):p:=h
theorem Zjg {p:Prop}(h:p:=by
 first
  |((with_reducible show AWL _ _ _ _ _);first|refine' ZaD|(refine AWL.op (sl:=SL) rfl rfl ?_ ?_)|refine' Zfd|refine' Zfe|refine' cl)
  |fail
 all_goals(apply_rules (newGoals:= .nonDependentOnly) only[dep];exact())):p:=h
theorem ZtV {p:Prop}(h:p:=by
 first
  |((refine ZnP.mk (ZjX.mk [] rfl rfl rfl rfl ?_ ?_ ?_ ?_);(focus (first|exact Or.inl rfl|exact Or.inr rfl));(focus (repeat (first|exact List.forall_mem_nil _|refine Ya5.2 ⟨rfl,?_⟩))))<;>(try simp(disch:=omega) only[NM,Nat.reduceBEq,reduceAdd,reduceMul,Int.reduceToNat,reduceSub,List.set_cons_zero,List.set_cons_succ,nx]))
  |fail
 all_goals(apply_rules (newGoals:= .nonDependentOnly) only[dep];exact())):p:=h
theorem ZtW {p:Prop}(h:p:=by
 first
  |((refine ZnP.pan [] rfl rfl (by repeat (first|exact List.forall_mem_nil _|refine Ya5.2 ⟨rfl,?_⟩)) ?_);(try simp(disch:=omega) only[NM,Nat.reduceBEq,reduceAdd,reduceMul,Int.reduceToNat,reduceSub,List.set_cons_zero,List.set_cons_succ,nx]))
  |fail
 all_goals(apply_rules (newGoals:= .nonDependentOnly) only[dep];exact())):p:=h
theorem ZbL {p:Prop}(h:p:=by
 first
  |(refine QEq.mp (by assumption) ?_;(try simp only[Zbd,Go.Abs.blockQ,↓reduceIte,Nat.reduceEqDiff]);(try refine' Zf))
  |fail
 all_goals(apply_rules (newGoals:= .nonDependentOnly) only[dep];exact())):p:=h
theorem ZtX {p:Prop}(h:p:=by
 first
  |((with_reducible show AWL _ _ _ _ _);first|refine' ZaD|(refine AWL.op (sl:=SL) rfl rfl ?_ ?_)|(refine AWL.slice3 rfl rfl rfl rfl rfl rfl rfl rfl ?_ ?_;(focus (constructor<;>omega)))|refine' Zb2|refine AWL.guardU rfl rfl rfl rfl rfl rfl ?_|refine' cl)
  |fail
 all_goals(apply_rules (newGoals:= .nonDependentOnly) only[dep];exact())):p:=h
theorem Zk1 {p:Prop}(h:p:=by
 first
  |refine CW.guardU rfl rfl rfl rfl rfl rfl rfl rfl ?_
  |fail
 all_goals(apply_rules (newGoals:= .nonDependentOnly) only[dep];exact())):p:=h
theorem ZhG {p:Prop}(h:p:=by
 first
  |((with_reducible show CW _ _ _ _ _ _ _ _ _ _ _ _);first|(refine CW.guard2 rfl rfl rfl rfl rfl rfl rfl rfl ?_ ?_<;>(intro hc;(try simp only[Bool.not_true,Bool.not_false]at hc);first|(cases hc;done)|refine' ZhD))|refine' Zk1|refine CW.tail rfl ?_)
  |fail
 all_goals(apply_rules (newGoals:= .nonDependentOnly) only[dep];exact())):p:=h
theorem Zce {p:Prop}(h:p:=by
 first
  |((with_reducible show AWL _ _ _ _ _);first|refine' ZaD|(refine AWL.op (sl:=SL) rfl rfl ?_ ?_)|refine' cl)
  |fail
 all_goals(apply_rules (newGoals:= .nonDependentOnly) only[dep];exact())):p:=h
theorem ZhH {p:Prop}(h:p:=by
 first
  |((with_reducible first|show AWL _ _ _ _ _|show AW _ _ _ _|show DQ _ _ _ _ _ _);(first|refine AWL.nil ?_|refine AW.skip ?_|refine AW.ret ?_|refine AW.exit ?_|refine DQ.nil ?_);(repeat (first|refine QEq.mp (by assumption) ?_|refine' ZkY)))
  |fail
 all_goals(apply_rules (newGoals:= .nonDependentOnly) only[dep];exact())):p:=h
theorem ZhI {p:Prop}(h:p:=by
 first
  |((with_reducible show AW _ _ _ _);first|refine' Zgl|((show AW _ (.region _ _ true) _ _);refine kp ?_;refine AW.drawn true Zjo ?_ ?_;(focus kernel_rfl)))
  |fail
 all_goals(apply_rules (newGoals:= .nonDependentOnly) only[dep];exact())):p:=h
theorem Zet {p:Prop}(h:p:=by
 first
  |((refine ZnP.mk (ZjX.mk [0] rfl rfl rfl rfl ?_ ?_ ?_ ?_);(focus (first|exact Or.inl rfl|exact Or.inr rfl));(focus (repeat (first|exact List.forall_mem_nil _|refine Ya5.2 ⟨rfl,?_⟩))))<;>(try simp(disch:=omega) only[NM,Nat.reduceBEq,reduceAdd,reduceMul,Int.reduceToNat,reduceSub,List.set_cons_zero,List.set_cons_succ,nx]))
  |fail
 all_goals(apply_rules (newGoals:= .nonDependentOnly) only[dep];exact())):p:=h
theorem Zeu {p:Prop}(h:p:=by
 first
  |((refine ZnP.pan [0] rfl rfl (by repeat (first|exact List.forall_mem_nil _|refine Ya5.2 ⟨rfl,?_⟩)) ?_);(try simp(disch:=omega) only[NM,Nat.reduceBEq,reduceAdd,reduceMul,Int.reduceToNat,reduceSub,List.set_cons_zero,List.set_cons_succ,nx]))
  |fail
 all_goals(apply_rules (newGoals:= .nonDependentOnly) only[dep];exact())):p:=h
theorem Zom {p:Prop}(h:p:=by
 first
  |((with_reducible show AWL _ _ _ _ _);first|refine' ZaD|(refine AWL.op (sl:=SL) rfl rfl ?_ ?_)|(refine AWL.tassert1 rfl rfl rfl rfl rfl (by kernel_rfl) ?_)|(refine AWL.iNil rfl rfl rfl rfl rfl rfl ⟨by kernel_rfl,by kernel_rfl⟩ ?_))
  |fail
 all_goals(apply_rules (newGoals:= .nonDependentOnly) only[dep];exact())):p:=h
theorem Zon {p:Prop}(h:p:=by
 first
  |((refine ZjX.mk [0,1] rfl rfl rfl rfl ?_ ?_ ?_ ?_;(focus (first|exact Or.inl rfl|exact Or.inr rfl));(focus (repeat (first|exact List.forall_mem_nil _|refine Ya5.2 ⟨rfl,?_⟩))))<;>(try simp(disch:=omega) only[NM,Nat.reduceBEq,reduceAdd,reduceMul,Int.reduceToNat,reduceSub,List.set_cons_zero,List.set_cons_succ,nx]))
  |fail
 all_goals(apply_rules (newGoals:= .nonDependentOnly) only[dep];exact())):p:=h
theorem Zoo {p:Prop}(h:p:=by
 first
  |((with_reducible show AW _ _ _ _);first|((fail_if_success (show AW _ (.region 5 _ _) _ _));(show AW _ (.region _ _ false) _ _);refine kp ?_;refine AW.region ?_))
  |fail
 all_goals(apply_rules (newGoals:= .nonDependentOnly) only[dep];exact())):p:=h
theorem ZtY {p:Prop}(h:p:=by
 first
  |((refine ZnP.mk (ZjX.mk [0,33] rfl rfl rfl rfl ?_ ?_ ?_ ?_);(focus (first|exact Or.inl rfl|exact Or.inr rfl));(focus (repeat (first|exact List.forall_mem_nil _|refine Ya5.2 ⟨rfl,?_⟩))))<;>(try simp(disch:=omega) only[NM,Nat.reduceBEq,reduceAdd,reduceMul,Int.reduceToNat,reduceSub,List.set_cons_zero,List.set_cons_succ,nx]))
  |fail
 all_goals(apply_rules (newGoals:= .nonDependentOnly) only[dep];exact())):p:=h
theorem ZtZ {p:Prop}(h:p:=by
 first
  |((refine ZnP.pan [0,33] rfl rfl (by repeat (first|exact List.forall_mem_nil _|refine Ya5.2 ⟨rfl,?_⟩)) ?_);(try simp(disch:=omega) only[NM,Nat.reduceBEq,reduceAdd,reduceMul,Int.reduceToNat,reduceSub,List.set_cons_zero,List.set_cons_succ,nx]))
  |fail
 all_goals(apply_rules (newGoals:= .nonDependentOnly) only[dep];exact())):p:=h
theorem Zk2 {p:Prop}(h:p:=by
 first
  |(refine DQ.step rfl rfl rfl rfl (Zdi.assign rfl) ?_)
  |fail
 all_goals(apply_rules (newGoals:= .nonDependentOnly) only[dep];exact())):p:=h
theorem Zop {p:Prop}(h:p:=by
 first
  |((with_reducible show DQ _ _ _ _ _ _);first|(refine DQ.op rfl rfl rfl rfl rfl ?_ ?_)|refine' Zk2|refine DQ.tail rfl ?_)
  |fail
 all_goals(apply_rules (newGoals:= .nonDependentOnly) only[dep];exact())):p:=h
theorem Zoq {p:Prop}(h:p:=by
 first
  |((with_reducible show AW _ .ret _ _);refine' rt)
  |fail
 all_goals(apply_rules (newGoals:= .nonDependentOnly) only[dep];exact())):p:=h
theorem Zt0 {p:Prop}(h:p:=by
 first
  |((with_reducible show AWL _ _ _ _ _);first|refine' ZaD|(refine AWL.op (sl:=SL) rfl rfl ?_ ?_)|refine' Zfd|refine' Zfe|refine' Zb2|refine AWL.guardU rfl rfl rfl rfl rfl rfl ?_)
  |fail
 all_goals(apply_rules (newGoals:= .nonDependentOnly) only[dep];exact())):p:=h
theorem Zjh {p:Prop}(h:p:=by
 first
  |((refine ZjX.mk [0,1002,1,2005] rfl rfl rfl rfl ?_ ?_ ?_ ?_;(focus (first|exact Or.inl rfl|exact Or.inr rfl));(focus (repeat (first|exact List.forall_mem_nil _|refine Ya5.2 ⟨rfl,?_⟩))))<;>(try simp(disch:=omega) only[NM,Nat.reduceBEq,reduceAdd,reduceMul,Int.reduceToNat,reduceSub,List.set_cons_zero,List.set_cons_succ,nx]))
  |fail
 all_goals(apply_rules (newGoals:= .nonDependentOnly) only[dep];exact())):p:=h
theorem Zk3 {p:Prop}(h:p:=by
 first
  |((with_reducible show AWL _ _ _ _ _);first|refine' ZaD|refine' Zk0|(refine AWL.op (sl:=SL) rfl rfl ?_ ?_)|refine' Zfd|refine' Zfe|refine' Zb2|refine AWL.guardU rfl rfl rfl rfl rfl rfl ?_|refine' cl)
  |fail
 all_goals(apply_rules (newGoals:= .nonDependentOnly) only[dep];exact())):p:=h
theorem Zt1 {p:Prop}(h:p:=by
 first
  |((with_reducible show AW _ _ _ _);first|((fail_if_success (show AW _ (.region 10 _ _) _ _));(show AW _ (.region _ _ false) _ _);refine kp ?_;refine AW.region ?_))
  |fail
 all_goals(apply_rules (newGoals:= .nonDependentOnly) only[dep];exact())):p:=h
theorem ZcA {p:Prop}(h:p:=by
 first
  |((refine ZjX.mk [0,1000] rfl rfl rfl rfl ?_ ?_ ?_ ?_;(focus (first|exact Or.inl rfl|exact Or.inr rfl));(focus (repeat (first|exact List.forall_mem_nil _|refine Ya5.2 ⟨rfl,?_⟩))))<;>(try simp(disch:=omega) only[NM,Nat.reduceBEq,reduceAdd,reduceMul,Int.reduceToNat,reduceSub,List.set_cons_zero,List.set_cons_succ,nx]))
  |fail
 all_goals(apply_rules (newGoals:= .nonDependentOnly) only[dep];exact())):p:=h
theorem Zor {p:Prop}(h:p:=by
 first
  |((refine ZjX.mk [0,1000,2,3000] rfl rfl rfl rfl ?_ ?_ ?_ ?_;(focus (first|exact Or.inl rfl|exact Or.inr rfl));(focus (repeat (first|exact List.forall_mem_nil _|refine Ya5.2 ⟨rfl,?_⟩))))<;>(try simp(disch:=omega) only[NM,Nat.reduceBEq,reduceAdd,reduceMul,Int.reduceToNat,reduceSub,List.set_cons_zero,List.set_cons_succ,nx]))
  |fail
 all_goals(apply_rules (newGoals:= .nonDependentOnly) only[dep];exact())):p:=h
theorem Zji {p:Prop}(h:p:=by
 first
  |((with_reducible show AWL _ _ _ _ _);refine AWL.lentD rfl rfl ?_;(try refine' ZtM))
  |fail
 all_goals(apply_rules (newGoals:= .nonDependentOnly) only[dep];exact())):p:=h
theorem Zjj {p:Prop}(h:p:=by
 first
  |((refine ZjX.mk [0,1002,3005] rfl rfl rfl rfl ?_ ?_ ?_ ?_;(focus (first|exact Or.inl rfl|exact Or.inr rfl));(focus (repeat (first|exact List.forall_mem_nil _|refine Ya5.2 ⟨rfl,?_⟩))))<;>(try simp(disch:=omega) only[NM,Nat.reduceBEq,reduceAdd,reduceMul,Int.reduceToNat,reduceSub,List.set_cons_zero,List.set_cons_succ,Bool.or_true,Bool.false_or,Bool.true_or,nx]))
  |fail
 all_goals(apply_rules (newGoals:= .nonDependentOnly) only[dep];exact())):p:=h
theorem Zt2 {p:Prop}(h:p:=by
 first
  |((refine ZnP.mk (ZjX.mk [0,3] rfl rfl rfl rfl ?_ ?_ ?_ ?_);(focus (first|exact Or.inl rfl|exact Or.inr rfl));(focus (repeat (first|exact List.forall_mem_nil _|refine Ya5.2 ⟨rfl,?_⟩))))<;>(try simp(disch:=omega) only[NM,Nat.reduceBEq,reduceAdd,reduceMul,Int.reduceToNat,reduceSub,List.set_cons_zero,List.set_cons_succ,nx]))
  |fail
 all_goals(apply_rules (newGoals:= .nonDependentOnly) only[dep];exact())):p:=h
theorem Zt3 {p:Prop}(h:p:=by
 first
  |((refine ZnP.pan [0,3] rfl rfl (by repeat (first|exact List.forall_mem_nil _|refine Ya5.2 ⟨rfl,?_⟩)) ?_);(try simp(disch:=omega) only[NM,Nat.reduceBEq,reduceAdd,reduceMul,Int.reduceToNat,reduceSub,List.set_cons_zero,List.set_cons_succ,nx]))
  |fail
 all_goals(apply_rules (newGoals:= .nonDependentOnly) only[dep];exact())):p:=h
theorem Zos {p:Prop}(h:p:=by
 first
  |refine AWL.opN (sl:=SLo) rfl rfl rfl trivial ?_
  |fail
 all_goals(apply_rules (newGoals:= .nonDependentOnly) only[dep];exact())):p:=h
theorem Zk4 {p:Prop}(h:p:=by
 first
  |((with_reducible show AWL _ _ _ _ _);first|refine' Zos|(refine AWL.op (sl:=SLo) rfl rfl ?_ ?_)|refine' Zb2|refine AWL.guardU rfl rfl rfl rfl rfl rfl ?_|refine' cl)
  |fail
 all_goals(apply_rules (newGoals:= .nonDependentOnly) only[dep];exact())):p:=h
theorem Zt4 {p:Prop}(h:p:=by
 first
  |((with_reducible show AWL _ _ _ _ _);first|refine' ZaD|(refine AWL.op (sl:=SL) rfl rfl ?_ ?_)|refine AWL.mkM rfl rfl rfl rfl ?_|refine' cl)
  |fail
 all_goals(apply_rules (newGoals:= .nonDependentOnly) only[dep];exact())):p:=h
theorem Zt5 {p:Prop}(h:p:=by
 first
  |(refine CWr.call (f:=58) rfl ?_ rfl (hc1) (fun _ _ h=>h) ?_ ?_ ?_;(focus kernel_rfl))
  |fail
 all_goals(apply_rules (newGoals:= .nonDependentOnly) only[dep];exact())):p:=h
theorem Zt6 {p:Prop}(h:p:=by
 first
  |((with_reducible show CWr _ _ _ _ _ _ _ _ _ _ _ _ _ _);first|(refine CWr.op rfl ?_ ?_ ?_)|(refine CWr.call (f:=55) rfl ?_ rfl (ht1) (fun _ _ h=>h) ?_ ?_ ?_;(focus kernel_rfl))|refine' Zt5)
  |fail
 all_goals(apply_rules (newGoals:= .nonDependentOnly) only[dep];exact())):p:=h
theorem Zt7 {p:Prop}(h:p:=by
 first
  |((with_reducible show AWL _ _ _ _ _);first|refine' ZaD|(refine AWL.op (sl:=SL) rfl rfl ?_ ?_)|refine' Zfd|refine' Zfe|(refine AWL.guard2 rfl rfl rfl rfl rfl rfl ?_ ?_<;>(intro hc;(try simp only[Bool.not_false,nx]at hc);first|(cases hc;done)|refine' ZhD))|refine AWL.guardU rfl rfl rfl rfl rfl rfl ?_|refine' cl)
  |fail
 all_goals(apply_rules (newGoals:= .nonDependentOnly) only[dep];exact())):p:=h
theorem Zt8 {p:Prop}(h:p:=by
 first
  |((with_reducible show CW _ _ _ _ _ _ _ _ _ _ _ _);first|(refine CW.guard2 rfl rfl rfl rfl rfl rfl rfl rfl ?_ ?_<;>(intro hc;(try simp only[Bool.not_false,nx]at hc);first|(cases hc;done)|refine' ZhD))|refine' Zk1|refine CW.tail rfl ?_)
  |fail
 all_goals(apply_rules (newGoals:= .nonDependentOnly) only[dep];exact())):p:=h
theorem Zt9 {p:Prop}(h:p:=by
 first
  |((with_reducible show CWr _ _ _ _ _ _ _ _ _ _ _ _ _ _);first|(refine CWr.op rfl ?_ ?_ ?_)|refine' Zt5|(refine CWr.call (f:=57) rfl ?_ rfl (hs1) (fun _ _ h=>h) ?_ ?_ ?_;(focus kernel_rfl)))
  |fail
 all_goals(apply_rules (newGoals:= .nonDependentOnly) only[dep];exact())):p:=h
theorem Zk5 {p:Prop}(h:p:=by
 first
  |((with_reducible show AW _ _ _ _);first|((first|refine AW.seqQ ?_|refine AW.blockQ ?_);intro Qn hQn))
  |fail
 all_goals(apply_rules (newGoals:= .nonDependentOnly) only[dep];exact())):p:=h
theorem Zot {p:Prop}(h:p:=by
 first
  |(refine AWL.convSame rfl rfl rfl rfl rfl rfl (List.cons_ne_nil _ _) (by decide) rfl rfl ?_)
  |fail
 all_goals(apply_rules (newGoals:= .nonDependentOnly) only[dep];exact())):p:=h
theorem Zou {p:Prop}(h:p:=by
 first
  |((with_reducible show AWL _ _ _ _ _);first|refine' ZaD|(refine AWL.op (sl:=SL) rfl rfl ?_ ?_)|refine AWL.mkM rfl rfl rfl rfl ?_|refine' Zot|refine' Zb2|refine AWL.guardU rfl rfl rfl rfl rfl rfl ?_|refine' cl)
  |fail
 all_goals(apply_rules (newGoals:= .nonDependentOnly) only[dep];exact())):p:=h
theorem Zua {p:Prop}(h:p:=by
 first
  |((with_reducible show AWL _ _ _ _ _);first|refine' ZaD|(refine AWL.op (sl:=SL) rfl rfl ?_ ?_)|refine' Zot|refine' Zb2|refine AWL.guardU rfl rfl rfl rfl rfl rfl ?_|refine' cl)
  |fail
 all_goals(apply_rules (newGoals:= .nonDependentOnly) only[dep];exact())):p:=h
theorem Zov {p:Prop}(h:p:=by
 first
  |((with_reducible show AWL _ _ _ _ _);first|refine AWL.opN (sl:=SLm) rfl rfl rfl trivial ?_|(refine AWL.op (sl:=SLm) rfl rfl ?_ ?_)|refine' Zb2|refine AWL.guardU rfl rfl rfl rfl rfl rfl ?_|refine' cl)
  |fail
 all_goals(apply_rules (newGoals:= .nonDependentOnly) only[dep];exact())):p:=h
theorem Za8 {p:Prop}(h:p:=by
 first
  |((try simp(disch:=omega) only[NM,Nat.reduceBEq,reduceAdd,reduceMul,Int.reduceToNat,reduceSub,List.set_cons_zero,List.set_cons_succ,nx]);(repeat' (first|exact trivial|exact rfl|exact⟨_,_,rfl⟩|exact⟨_,rfl⟩|exact Yaa rfl|exact Nat.zero_lt_succ _|omega|(simp only[Yal];omega)|(simp only[Zb]at *;omega)|refine And.intro ?_ ?_|fail));done)
  |fail
 all_goals(apply_rules (newGoals:= .nonDependentOnly) only[dep];exact())):p:=h
theorem Zax {p:Prop}(h:p:=by
 first
  |((first|refine ZaY i3 _ _ ?_|refine ZaY i5 _ _ ?_|refine Zbe i3 _ _ ?_|refine Zbe i5 _ _ ?_);first|assumption|omega|(simp only[Yal];omega))
  |fail
 all_goals(apply_rules (newGoals:= .nonDependentOnly) only[dep];exact())):p:=h
theorem Zad {p:Prop}(h:p:=by
 first
  |((repeat' (first|exact trivial|exact rfl|exact Yaa rfl|refine And.intro ?_ ?_|fail));done)
  |fail
 all_goals(apply_rules (newGoals:= .nonDependentOnly) only[dep];exact())):p:=h
theorem Zao {p:Prop}(h:p:=by
 first
  |(simp only[Yar,Yaw,Yal,Yag,List.length_nil];omega)
  |fail
 all_goals(apply_rules (newGoals:= .nonDependentOnly) only[dep];exact())):p:=h
theorem Zc2 {p:Prop}(h:p:=by
 first
  |((show Zrt _ _ _ _ _ _);(repeat' (first|exact trivial|exact Or.inr (Or.inl rfl)|exact Or.inl rfl|exact Or.inr (Or.inr rfl)|refine And.intro ?_ ?_));done)
  |fail
 all_goals(apply_rules (newGoals:= .nonDependentOnly) only[dep];exact())):p:=h
theorem Zgm {p:Prop}(h:p:=by
 first
  |((first|refine ZaY i3 _ _ ?_|refine ZaY i48 _ _ ?_|refine ZaY i5 _ _ ?_|refine Zbe i3 _ _ ?_|refine Zbe i48 _ _ ?_|refine Zbe i5 _ _ ?_);first|assumption|omega|(simp only[Yal];omega))
  |fail
 all_goals(apply_rules (newGoals:= .nonDependentOnly) only[dep];exact())):p:=h
theorem Zow {p:Prop}(h:p:=by
 first
  |(simp only[Zb,Zas]at *;omega)
  |fail
 all_goals(apply_rules (newGoals:= .nonDependentOnly) only[dep];exact())):p:=h
theorem Zk6 {p:Prop}(h:p:=by
 first
  |((try simp(disch:=omega) only[NM,Nat.reduceBEq,reduceAdd,reduceMul,Int.reduceToNat,reduceSub,List.set_cons_zero,List.set_cons_succ,nx]);(repeat' (first|exact trivial|exact rfl|exact⟨_,_,rfl⟩|exact⟨_,rfl⟩|exact Yaa rfl|exact Nat.zero_lt_succ _|omega|refine' Zow|refine And.intro ?_ ?_|fail));done)
  |fail
 all_goals(apply_rules (newGoals:= .nonDependentOnly) only[dep];exact())):p:=h
theorem Zjk {p:Prop}(h:p:=by
 first
  |(refine And.intro (by kernel_rfl) (And.intro ⟨_,(by first|exact nums_ints _ _|rfl),(by first|exact nums_ints _ _|rfl)⟩ (And.intro ?_ ?_))<;>(first|rfl|assumption|(simp only[Zb];omega)|omega))
  |fail
 all_goals(apply_rules (newGoals:= .nonDependentOnly) only[dep];exact())):p:=h
theorem Zox {p:Prop}(h:p:=by
 first
  |((try simp(disch:=omega) only[NM,Nat.reduceBEq,reduceAdd,reduceMul,Int.reduceToNat,reduceSub,List.set_cons_zero,List.set_cons_succ,nx]);(repeat' (first|exact trivial|exact rfl|exact⟨_,_,rfl⟩|exact⟨_,rfl⟩|exact Yaa rfl|exact Nat.zero_lt_succ _|omega|(simp only[Zb,Zch]at *;omega)|refine And.intro ?_ ?_|fail));done)
  |fail
 all_goals(apply_rules (newGoals:= .nonDependentOnly) only[dep];exact())):p:=h
theorem Zoy {p:Prop}(h:p:=by
 first
  |((try simp(disch:=omega) only[NM,Nat.reduceBEq,reduceAdd,reduceMul,Int.reduceToNat,reduceSub,List.set_cons_zero,List.set_cons_succ,nx]);(repeat' (first|exact trivial|exact rfl|exact⟨_,_,rfl⟩|exact⟨_,rfl⟩|exact Yaa rfl|exact Nat.zero_lt_succ _|omega|(simp only[Zb]at *;omega)|refine And.intro ?_ ?_|fail));done)
  |fail
 all_goals(apply_rules (newGoals:= .nonDependentOnly) only[dep];exact())):p:=h
theorem Zjl {p:Prop}(h:p:=by
 first
  |((first|rw[ZFi]|rw[s2]|rw[s19]|rw[s3]|rw[s35]|rw[s52]|rw[s4]|rw[s68]);exact⟨by decide,by decide⟩)
  |fail
 all_goals(apply_rules (newGoals:= .nonDependentOnly) only[dep];exact())):p:=h
theorem Zub {p:Prop}(h:p:=by
 first
  |((try simp only[hc]);(try simp only[beq_iff_eq,bne_iff_ne,Yaz,decide_eq_false_iff_not,Yam,bne_eq_false_iff_eq,ne_eq,Bool.not_eq_true,Bool.not_eq_false,Bool.not_eq_eq_eq_not,Bool.not_true,Bool.not_false,Decidable.not_not,Int.not_lt,Int.not_le]at hc);(try(exfalso;omega));(try(guard_hyp hc:True;clear hc)))
  |fail
 all_goals(apply_rules (newGoals:= .nonDependentOnly) only[dep];exact())):p:=h
theorem Zjm {p:Prop}(h:p:=by
 first
  |(refine And.intro ?_ (And.intro ?_ ?_);(focus kernel_rfl);(focus kernel_rfl);(focus kernel_rfl))
  |fail
 all_goals(apply_rules (newGoals:= .nonDependentOnly) only[dep];exact())):p:=h
theorem Zuc {p:Prop}(h:p:=by
 first
  |((show AW _ (.region _ _ true) _ _);refine kp ?_;refine AW.calm false [] [] Zjo ?hpan ?hchkc rfl ?_;(case hchkc=>(as_aux_lemma=>kernel_rfl));(case hpan=>(first|assumption|exact Zh|exact Zd|refine' Zol|exact Zo (by assumption))))
  |fail
 all_goals(apply_rules (newGoals:= .nonDependentOnly) only[dep];exact())):p:=h
theorem Zud {p:Prop}(h:p:=by
 first
  |((try simp(disch:=omega) only[NM,Nat.reduceBEq,reduceAdd,reduceMul,Int.reduceToNat,reduceSub,List.set_cons_zero,List.set_cons_succ,nx]);(repeat' (first|exact trivial|exact rfl|exact Yaa rfl|refine And.intro ?_ ?_|fail));done)
  |fail
 all_goals(apply_rules (newGoals:= .nonDependentOnly) only[dep];exact())):p:=h
theorem Zue {p:Prop}(h:p:=by
 first
  |(refine AWL.guard2 rfl rfl rfl rfl rfl rfl ?_ ?_<;>(intro hc;(try simp only[Bool.not_true,Bool.not_false]at hc);first|(cases hc;done)|((try simp only[nx]);(try simp only[HCX]at hc);(try(exfalso;omega));(try(guard_hyp hc:True;clear hc)))))
  |fail
 all_goals(apply_rules (newGoals:= .nonDependentOnly) only[dep];exact())):p:=h
theorem Zuf {p:Prop}(h:p:=by
 first
  |((show AW _ (.region _ _ true) _ _);refine AW.calm false [] [] Zjo (by(repeat' (first|exact Zh|exact Zd|refine Zs ?_|refine Zo ?_|refine QEq.pan (by assumption) ?_))) ?_ rfl ?_;(focus (as_aux_lemma=>kernel_rfl)))
  |fail
 all_goals(apply_rules (newGoals:= .nonDependentOnly) only[dep];exact())):p:=h
theorem Zug {p:Prop}(h:p:=by
 first
  |(refine CWr.call (f:=114) rfl ?_ rfl (w0) (fun _ _ h=>h) ?_ ?_ ?_;(focus kernel_rfl))
  |fail
 all_goals(apply_rules (newGoals:= .nonDependentOnly) only[dep];exact())):p:=h
theorem Zuh {p:Prop}(h:p:=by
 first
  |(refine CWr.call (f:=114) rfl ?_ rfl (w1) (fun _ _ h=>h) ?_ ?_ ?_;(focus kernel_rfl))
  |fail
 all_goals(apply_rules (newGoals:= .nonDependentOnly) only[dep];exact())):p:=h
theorem Zui {p:Prop}(h:p:=by
 first
  |(refine CWr.call (f:=114) rfl ?_ rfl (w2) (fun _ _ h=>h) ?_ ?_ ?_;(focus kernel_rfl))
  |fail
 all_goals(apply_rules (newGoals:= .nonDependentOnly) only[dep];exact())):p:=h
theorem Zuj {p:Prop}(h:p:=by
 first
  |(refine CWr.call (f:=114) rfl ?_ rfl (w3) (fun _ _ h=>h) ?_ ?_ ?_;(focus kernel_rfl))
  |fail
 all_goals(apply_rules (newGoals:= .nonDependentOnly) only[dep];exact())):p:=h
theorem Zuk {p:Prop}(h:p:=by
 first
  |(simp only[Yar,Yaw,Yal,nx];omega)
  |fail
 all_goals(apply_rules (newGoals:= .nonDependentOnly) only[dep];exact())):p:=h
theorem Zul {p:Prop}(h:p:=by
 first
  |(with_reducible show CW _ _ _ _ _ _ _ _ _ _ _ (St.put _ _ _))
  |fail
 all_goals(apply_rules (newGoals:= .nonDependentOnly) only[dep];exact())):p:=h
theorem Zum {p:Prop}(h:p:=by
 first
  |(refine AWL.mkI rfl rfl rfl rfl rfl rfl (by kernel_rfl) ?_)
  |fail
 all_goals(apply_rules (newGoals:= .nonDependentOnly) only[dep];exact())):p:=h
theorem Zun {p:Prop}(h:p:=by
 first
  |refine CW.guard2 rfl rfl rfl rfl rfl rfl rfl rfl ?_ ?_
  |fail
 all_goals(apply_rules (newGoals:= .nonDependentOnly) only[dep];exact())):p:=h
theorem Zuo {p:Prop}(h:p:=by
 first
  |(with_reducible show AWL _ _ _ _ (St.put _ _ _))
  |fail
 all_goals(apply_rules (newGoals:= .nonDependentOnly) only[dep];exact())):p:=h
theorem Zup {p:Prop}(h:p:=by
 first
  |refine AWL.guard2 rfl rfl rfl rfl rfl rfl ?_ ?_
  |fail
 all_goals(apply_rules (newGoals:= .nonDependentOnly) only[dep];exact())):p:=h
theorem Zw5 {p:Prop}(h:p:=by first
 |(focus ((first|exact trivial|omega|assumption|refine' Zgm|(show _<=_;omega)|refine' Zao|refine' Zad|refine' Zox);done))
 |fail):p:=h
theorem Zw6 {p:Prop}(h:p:=by first
 |(focus ((first|exact trivial|omega|assumption|refine' Zgm|exact ZaY u64 _ _ (by first|assumption|omega)|(show _<=_;omega)|refine' Zao|refine' Zad|refine' Zoy);done))
 |fail):p:=h
theorem Zp9 {p:Prop}(h:p:=by first
 |(focus ((first|exact trivial|omega|assumption|refine' Zax|(show _<=_;omega)|refine' Zao|refine' Zad|refine' Za8);done))
 |fail):p:=h
theorem Zw7 {p:Prop}(h:p:=by first
 |(focus ((first|exact trivial|omega|assumption|refine' Zax|(simp only[ZDE,ZiP];omega)|(show _<=_;omega)|refine' Zao|refine' Zad|refine' Za8);done))
 |fail):p:=h
theorem Zw8 {p:Prop}(h:p:=by first
 |(focus ((first|exact trivial|omega|refine' Zjk|refine' Zjm|((show Ze1 _ _ _=true);kernel_rfl)|refine' Zc2|assumption|refine' Zax|(show _<=_;omega)|refine' Zao|refine' Zad|((try simp(disch:=omega) only[NSX,Nat.reduceBEq,Nat.reduceAdd,Nat.reduceMul,Int.reduceToNat,Nat.reduceSub,TY,List.set_cons_zero,List.set_cons_succ,SLS,Zb,Zb5,Zas,nx]);(repeat' (first|exact trivial|exact rfl|exact⟨_,_,rfl⟩|exact⟨_,rfl⟩|exact Yaa rfl|exact Nat.zero_lt_succ _|omega|refine' Zow|refine And.intro ?_ ?_|fail));done));done))
 |fail):p:=h
theorem Zw9 {p:Prop}(h:p:=by first
 |(focus ((first|exact trivial|omega|assumption|refine' Zax|(show _<=_;omega)|refine' Zao|refine' Zad|refine' Zk6);done))
 |fail):p:=h
theorem Zxa {p:Prop}(h:p:=by first
 |(focus ((first|exact trivial|omega|assumption|refine' Zax|exact ZBn h1|(show _<=_;omega)|refine' Zao|refine' Zad|refine' Za8);done))
 |fail):p:=h
theorem Zxb {p:Prop}(h:p:=by first
 |(focus ((first|exact trivial|omega|assumption|refine' Zax|(show _<=_;omega)|refine' Zao|refine' Zad|((try simp(disch:=omega) only[NM,Nat.reduceBEq,reduceAdd,reduceMul,Int.reduceToNat,reduceSub,List.set_cons_zero,List.set_cons_succ,Bool.or_true,Bool.false_or,Bool.true_or,nx]);(repeat' (first|exact trivial|exact rfl|exact⟨_,_,rfl⟩|exact⟨_,rfl⟩|exact Yaa rfl|exact Nat.zero_lt_succ _|omega|(simp only[Yal];omega)|(simp only[Zb]at *;omega)|refine And.intro ?_ ?_|fail));done));done))
 |fail):p:=h
theorem Zxc {p:Prop}(h:p:=by first
 |(focus ((first|exact trivial|omega|((show Ze1 _ _ _=true);kernel_rfl)|refine' Zc2|assumption|refine' Zgm|(show _<=_;omega)|refine' Zao|refine' Zad|refine' Zox);done))
 |fail):p:=h
theorem Zxd {p:Prop}(h:p:=by first
 |(focus ((first|exact trivial|omega|assumption|refine' Zax|exact Znt hby|(show _<=_;omega)|refine' Zao|refine' Zad|refine' Za8);done))
 |fail):p:=h
theorem Zxe {p:Prop}(h:p:=by first
 |(focus ((first|exact trivial|omega|assumption|refine' Zax|(simp only[ZDF,ZiP];omega)|(simp only[ZDD,ZiP];omega)|(simp only[ZGi,ZsA];omega)|(simp only[ZH0,ZsA];omega)|(show _<=_;omega)|refine' Zao|refine' Zad|refine' Za8);done))
 |fail):p:=h
theorem Zxf {p:Prop}(h:p:=by first
 |(focus ((first|exact trivial|omega|assumption|refine' Zax|(simp only[ZFU,ZiP];omega)|(show _<=_;omega)|refine' Zao|refine' Zad|refine' Za8);done))
 |fail):p:=h
theorem Zxg {p:Prop}(h:p:=by first
 |(focus ((first|exact trivial|omega|assumption|refine' Zgm|(simp only[Zb,hsp];omega)|(show _<=_;omega)|refine' Zao|refine' Zad|refine' Zox);done))
 |fail):p:=h
theorem Zxh {p:Prop}(h:p:=by first
 |(focus ((first|exact trivial|omega|assumption|refine' Zax|(simp only[ZDF,ZiP];omega)|(show _<=_;omega)|refine' Zao|refine' Zad|refine' Za8);done))
 |fail):p:=h
theorem ZEm {p:Prop}(h:p:=by first
 |(focus ((first|exact trivial|omega|((show Ze1 _ _ _=true);kernel_rfl)|refine' Zc2|assumption|refine' Zax|exact⟨hdl,_,hld⟩|exact Or.inl rfl|exact Or.inr rfl|(simp only[Yar,Yaw];omega)|(show _<=_;omega)|refine' Zao|refine' Zad|refine' Zk6);done))
 |fail):p:=h
theorem ZEn {p:Prop}(h:p:=by first
 |(focus ((first|exact trivial|omega|assumption|refine' Zax|(simp only[ZFd,ZiP];omega)|(show _<=_;omega)|refine' Zao|refine' Zad|refine' Zk6);done))
 |fail):p:=h
theorem Zxi {p:Prop}(h:p:=by first
 |(focus ((first|exact trivial|omega|refine' Zjk|refine' Zjm|((show Ze1 _ _ _=true);kernel_rfl)|refine' Zc2|assumption|refine' Zax|exact dl|refine' Zjl|(show _<=_;omega)|refine' Zuk|refine' Zad|refine' Za8);done))
 |fail):p:=h
theorem Zxj {p:Prop}(h:p:=by first
 |(focus ((first|exact trivial|omega|assumption|refine' Zgm|(simp only[nx];omega)|(show _<=_;omega)|refine' Zao|refine' Zad|((try simp(disch:=omega) only[NM,Nat.reduceBEq,reduceAdd,reduceMul,Int.reduceToNat,reduceSub,List.set_cons_zero,List.set_cons_succ,nx]);(repeat' (first|exact trivial|exact rfl|exact⟨_,_,rfl⟩|exact⟨_,rfl⟩|exact Yaa rfl|exact Nat.zero_lt_succ _|omega|(simp only[Zch,nx]at *;omega)|refine And.intro ?_ ?_|fail));done));done))
 |fail):p:=h
theorem Zxk {p:Prop}(h:p:=by first
 |(focus ((first|exact trivial|omega|refine' Zjk|refine' Zjm|((show Ze1 _ _ _=true);kernel_rfl)|refine' Zc2|assumption|refine' Zax|(show _<=_;omega)|refine' Zao|refine' Zad|((try simp(disch:=omega) only[NSX,Nat.reduceBEq,Nat.reduceAdd,Nat.reduceMul,Int.reduceToNat,Nat.reduceSub,TY,List.set_cons_zero,List.set_cons_succ,SLS,Zb,Zb5,Zas,O5,O11,nx]);(repeat' (first|exact trivial|exact rfl|exact⟨_,_,rfl⟩|exact⟨_,rfl⟩|exact Yaa rfl|exact Nat.zero_lt_succ _|omega|refine' Zow|refine And.intro ?_ ?_|fail));done));done))
 |fail):p:=h
theorem Zxl {p:Prop}(h:p:=by first
 |(focus ((first|exact trivial|omega|((show Ze1 _ _ _=true);kernel_rfl)|refine' Zc2|assumption|refine' Zax|(simp only[ZBo,ZiP];omega)|(show _<=_;omega)|refine' Zao|refine' Zad|refine' Za8);done))
 |fail):p:=h
theorem Zxm {p:Prop}(h:p:=by first
 |(focus ((first|exact trivial|omega|((show Ze1 _ _ _=true);kernel_rfl)|refine' Zc2|assumption|refine' Zax|exact dl|refine' Zjl|(show _<=_;omega)|refine' Zao|refine' Zad|refine' Za8);done))
 |fail):p:=h
theorem Zxn {p:Prop}(h:p:=by first
 |(focus ((first|exact trivial|omega|((show Ze1 _ _ _=true);kernel_rfl)|refine' Zc2|assumption|refine' Zax|(show _<=_;omega)|refine' Zao|refine' Zad|refine' Za8);done))
 |fail):p:=h
theorem Zxo {p:Prop}(h:p:=by first
 |(focus ((first|exact trivial|omega|((show Ze1 _ _ _=true);kernel_rfl)|refine' Zc2|assumption|refine' Zax|exact Znt hby|(show _<=_;omega)|refine' Zao|refine' Zad|refine' Za8);done))
 |fail):p:=h
theorem Zxp {p:Prop}(h:p:=by first
 |(focus ((first|exact trivial|omega|assumption|refine' Zax|(show _<=_;omega)|(simp only[Yar,Yaw,Yal,Yag,nx];omega)|refine' Zad|refine' Za8);done))
 |fail):p:=h
theorem Zxq {p:Prop}(h:p:=by first
 |(focus ((first|exact trivial|omega|assumption|refine' Zgm|exact ZaY i2 _ _ (by first|assumption|omega)|(show _<=_;omega)|refine' Zao|refine' Zad|refine' Zoy);done))
 |fail):p:=h
theorem Zxr {p:Prop}(h:p:=by first
 |(focus ((first|exact trivial|omega|((show Ze1 _ _ _=true);kernel_rfl)|refine' Zc2|assumption|refine' Zax|exact dl|refine' Zjl|(show _<=_;omega)|(simp only[Yar,Yaw,Yal,List.length_nil,nx];omega)|refine' Zad|refine' Za8);done))
 |fail):p:=h
theorem Zxs {p:Prop}(h:p:=by first
 |(focus ((first|exact trivial|omega|refine' Zjk|refine' Zjm|((show Ze1 _ _ _=true);kernel_rfl)|refine' Zc2|assumption|refine' Zax|(show _<=_;omega)|refine' Zao|refine' Zad|refine' Za8);done))
 |fail):p:=h
theorem Zxt {p:Prop}(h:p:=by first
 |(focus ((first|exact trivial|omega|assumption|refine' Zax|exact dl|refine' Zjl|(show _<=_;omega)|refine' Zao|refine' Zad|refine' Za8);done))
 |fail):p:=h
theorem Zxu {p:Prop}(h:p:=by first
 |(focus ((first|exact trivial|omega|assumption|refine' Zgm|(show _<=_;omega)|refine' Zao|refine' Zad|refine' Zoy);done))
 |fail):p:=h
theorem Zxv {p:Prop}(h:p:=by first
 |(focus ((first|exact trivial|omega|((show Ze1 _ _ _=true);kernel_rfl)|refine' Zc2|assumption|refine' Zax|exact dl|refine' Zjl|(show _<=_;omega)|refine' Zuk|refine' Zad|refine' Za8);done))
 |fail):p:=h
theorem Zxw {p:Prop}(h:p:=by first
 |(focus ((first|exact trivial|omega|refine' Zjk|refine' Zjm|assumption|refine' Zax|(show _<=_;omega)|refine' Zao|refine' Zad|refine' Za8);done))
 |fail):p:=h
theorem Zxx {p:Prop}(h:p:=by first
 |(focus ((first|exact trivial|omega|assumption|refine' Zax|(simp only[ZDD,ZiP];omega)|(show _<=_;omega)|refine' Zao|refine' Zad|refine' Za8);done))
 |fail):p:=h
theorem Zxy {p:Prop}(h:p:=by
 repeat' (first
  |refine' Zg
  |refine' Zx
  |refine' Zl
  |((first
   |refine' Zce
   |refine' ZtU)<;>(try refine' Zan))
  |refine' Ze
  |((with_reducible show True);exact trivial)
  |refine' Zor
  |exact sd
  |fail)
 all_goals(try clear nx)
 all_goals(apply_rules (newGoals:= .nonDependentOnly) only[dep];exact())):p:=h
theorem Zxz {p:Prop}(h:p:=by
 repeat' (first
  |refine' Zg
  |refine' Zl
  |((first
   |refine' ZkZ
   |refine' Zu)<;>(try refine' ZbK))
  |refine' Ze
  |((with_reducible show True);exact trivial)
  |refine' ZcA
  |exact sd
  |fail)
 all_goals(try clear nx)
 all_goals(apply_rules (newGoals:= .nonDependentOnly) only[dep];exact())):p:=h
theorem ZfA {p:Prop}(h:p:=by
 repeat' (first
  |refine' Zg
  |refine' Zx
  |refine' Zl
  |((first
   |refine' Zk3
   |refine' Zu)<;>(try refine' Zc0))
  |refine' Ze
  |((with_reducible show True);exact trivial)
  |refine' Zjh
  |exact sd
  |fail)
 all_goals(try clear nx)
 all_goals(apply_rules (newGoals:= .nonDependentOnly) only[dep];exact())):p:=h
theorem ZxA {p:Prop}(h:p:=by
 repeat' (first
  |refine' Zk5
  |refine' Zx
  |refine' ZhH
  |((first
   |refine' Zou
   |refine' Zop
   |refine' ZhI
   |(first|(refine DQ.yes rfl ?_ ?_)))<;>(try refine' Zan))
  |refine' Ze
  |((with_reducible show True);exact trivial)
  |fail
  |refine' ZbL
  |exact sd
  |fail)
 all_goals(try clear nx)
 all_goals(apply_rules (newGoals:= .nonDependentOnly) only[dep];exact())):p:=h
theorem ZxB {p:Prop}(h:p:=by
 repeat' (first
  |refine' Zg
  |refine' Zl
  |((first
   |refine' Zua
   |refine' Zu)<;>(try refine' ZbK))
  |refine' Ze
  |((with_reducible show True);exact trivial)
  |refine' Z1
  |exact sd
  |fail)
 all_goals(try clear nx)
 all_goals(apply_rules (newGoals:= .nonDependentOnly) only[dep];exact())):p:=h
theorem ZbV {p:Prop}(h:p:=by
 repeat' (first
  |refine' Zg
  |refine' Zji
  |refine' Zl
  |((first
   |refine' ZaS
   |refine' Zu)<;>(try refine' Zje))
  |refine' Ze
  |((with_reducible show True);exact trivial)
  |refine' Zjj
  |exact sd
  |fail)
 all_goals(try clear nx)
 all_goals(apply_rules (newGoals:= .nonDependentOnly) only[dep];exact())):p:=h
theorem Zk7 {p:Prop}(h:p:=by
 repeat' (first
  |refine' Za3
  |refine' Za4
  |refine' Zg
  |refine' Zx
  |refine' Za5
  |((first
   |refine' Zjg
   |((with_reducible show CWr _ _ _ _ _ _ _ _ _ _ _ _ _ _);first|(refine CWr.op rfl ?_ ?_ ?_)|(refine CWr.assign rfl ?_ ?_)|(refine CWr.call (f:=175) rfl ?_ rfl (hs) (fun _ _ h=>h) ?_ ?_ ?_;(focus kernel_rfl)))
   |refine' Zc1
   |refine' Za6
   |refine' Zfg)<;>(try refine' Zjd))
  |refine' Ze
  |refine' Za7
  |refine' ZhF
  |exact sd
  |fail)
 all_goals(try clear nx)
 all_goals(apply_rules (newGoals:= .nonDependentOnly) only[dep];exact())):p:=h
theorem Zqa {p:Prop}(h:p:=by
 repeat' (first
  |refine' Zg
  |refine' Zx
  |refine' Zl
  |((first
   |refine' Zce
   |refine' Zu)<;>(try refine' Zan))
  |refine' Ze
  |((with_reducible show True);exact trivial)
  |refine' Zt2
  |refine' Zt3
  |refine' ZbL
  |exact sd
  |fail)
 all_goals(try clear nx)
 all_goals(apply_rules (newGoals:= .nonDependentOnly) only[dep];exact())):p:=h
theorem ZxC {p:Prop}(h:p:=by
 repeat' (first
  |refine' Zg
  |refine' Zl
  |((first
   |refine' Zoe
   |refine' Zu)<;>(try refine' ZbK))
  |refine' Ze
  |((with_reducible show True);exact trivial)
  |refine' ZcA
  |exact sd
  |fail)
 all_goals(try clear nx)
 all_goals(apply_rules (newGoals:= .nonDependentOnly) only[dep];exact())):p:=h
theorem Zcf {p:Prop}(h:p:=by
 repeat' (first
  |refine' Zg
  |refine' Zx
  |refine' Zl
  |((first
   |refine' Zce
   |refine' Zu)<;>(try refine' Zan))
  |refine' Ze
  |((with_reducible show True);exact trivial)
  |refine' ZcA
  |exact sd
  |fail)
 all_goals(try clear nx)
 all_goals(apply_rules (newGoals:= .nonDependentOnly) only[dep];exact())):p:=h
theorem Zev {p:Prop}(h:p:=by
 repeat' (first
  |refine' Zg
  |refine' Zl
  |((first
   |refine' ZaS
   |refine' Zu)<;>(try refine' Zb1))
  |refine' Ze
  |((with_reducible show True);exact trivial)
  |refine' Z1
  |exact sd
  |fail)
 all_goals(try clear nx)
 all_goals(apply_rules (newGoals:= .nonDependentOnly) only[dep];exact())):p:=h
theorem ZxD {p:Prop}(h:p:=by
 repeat' (first
  |refine' Zg
  |refine' Zl
  |((first
   |refine' Zov
   |((with_reducible show AW _ _ _ _);first|((fail_if_success (show AW _ (.region 29 _ _) _ _));(show AW _ (.region _ _ false) _ _);refine kp ?_;refine AW.region ?_)))<;>(try refine' ZbK))
  |refine' Ze
  |((with_reducible show True);exact trivial)
  |refine' Z1
  |exact sd
  |fail)
 all_goals(try clear nx)
 all_goals(apply_rules (newGoals:= .nonDependentOnly) only[dep];exact())):p:=h
theorem ZaH {p:Prop}(h:p:=by
 repeat' (first
  |refine' Zk5
  |refine' Zx
  |refine' Zl
  |((first
   |refine' Zou
   |refine' Zu)<;>(try refine' Zan))
  |refine' Ze
  |((with_reducible show True);exact trivial)
  |fail
  |refine' ZbL
  |exact sd
  |fail)
 all_goals(try clear nx)
 all_goals(apply_rules (newGoals:= .nonDependentOnly) only[dep];exact())):p:=h
theorem ZxE {p:Prop}(h:p:=by
 repeat' (first
  |refine' Zg
  |refine' Zx
  |refine' Zl
  |((first
   |refine' Zk3
   |refine' Zt1)<;>(try refine' Zc0))
  |refine' Ze
  |((with_reducible show True);exact trivial)
  |refine' Zjh
  |exact sd
  |fail)
 all_goals(try clear nx)
 all_goals(apply_rules (newGoals:= .nonDependentOnly) only[dep];exact())):p:=h
theorem ZxF {p:Prop}(h:p:=by
 repeat' (first
  |refine' Zg
  |refine' Zx
  |refine' Zl
  |((first
   |refine' Zt4
   |refine' Zu)<;>(try refine' Zan))
  |refine' Ze
  |((with_reducible show True);exact trivial)
  |refine' Zet
  |((refine ZnP.mk (ZjX.mk [0,1] rfl rfl rfl rfl ?_ ?_ ?_ ?_);(focus (first|exact Or.inl rfl|exact Or.inr rfl));(focus (repeat (first|exact List.forall_mem_nil _|refine Ya5.2 ⟨rfl,?_⟩))))<;>(try simp(disch:=omega) only[NM,Nat.reduceBEq,reduceAdd,reduceMul,Int.reduceToNat,reduceSub,List.set_cons_zero,List.set_cons_succ,nx]))
  |refine' Zeu
  |((refine ZnP.pan [0,1] rfl rfl (by repeat (first|exact List.forall_mem_nil _|refine Ya5.2 ⟨rfl,?_⟩)) ?_);(try simp(disch:=omega) only[NM,Nat.reduceBEq,reduceAdd,reduceMul,Int.reduceToNat,reduceSub,List.set_cons_zero,List.set_cons_succ,nx]))
  |refine' ZbL
  |exact sd
  |fail)
 all_goals(try clear nx)
 all_goals(apply_rules (newGoals:= .nonDependentOnly) only[dep];exact())):p:=h
theorem ZxG {p:Prop}(h:p:=by
 repeat' (first
  |refine' Zg
  |refine' Zl
  |((first
   |refine' Zom
   |refine' Zoo)<;>(try refine' ZbK))
  |refine' Ze
  |((with_reducible show True);exact trivial)
  |refine' Zon
  |exact sd
  |fail)
 all_goals(try clear nx)
 all_goals(apply_rules (newGoals:= .nonDependentOnly) only[dep];exact())):p:=h
theorem ZxH {p:Prop}(h:p:=by
 repeat' (first
  |refine' Zg
  |refine' Zx
  |refine' Zl
  |((first
   |refine' ZhE
   |refine' Zu
   |refine' ZdP)<;>(try refine' Zan))
  |refine' Ze
  |refine' ZdQ
  |refine' ZcA
  |exact sd
  |fail)
 all_goals(try clear nx)
 all_goals(apply_rules (newGoals:= .nonDependentOnly) only[dep];exact())):p:=h
theorem ZxI {p:Prop}(h:p:=by
 repeat' (first
  |refine' Zg
  |refine' Zx
  |refine' Zl
  |((first
   |refine' ZaS
   |((with_reducible show AW _ _ _ _);first|((fail_if_success (show AW _ (.region 17 _ _) _ _));(show AW _ (.region _ _ false) _ _);refine kp ?_;refine AW.region ?_)))<;>(try refine' Zc0))
  |refine' Ze
  |((with_reducible show True);exact trivial)
  |refine' Z1
  |exact sd
  |fail)
 all_goals(try clear nx)
 all_goals(apply_rules (newGoals:= .nonDependentOnly) only[dep];exact())):p:=h
theorem ZxJ {p:Prop}(h:p:=by
 repeat' (first
  |refine' Zg
  |refine' Zl
  |((first
   |refine' ZaS
   |((with_reducible show AW _ _ _ _);first|((fail_if_success (show AW _ (.region 35 _ _) _ _));(show AW _ (.region _ _ false) _ _);refine kp ?_;refine AW.region ?_))
   |refine' ZdP)<;>(try refine' Zb1))
  |refine' Ze
  |refine' ZdQ
  |refine' Z1
  |exact sd
  |fail)
 all_goals(try clear nx)
 all_goals(apply_rules (newGoals:= .nonDependentOnly) only[dep];exact())):p:=h
theorem ZxK {p:Prop}(h:p:=by
 repeat' (first
  |refine' Zg
  |refine' Zx
  |refine' Zl
  |((first
   |refine' Zk3
   |((with_reducible show AW _ _ _ _);first|((fail_if_success (show AW _ (.region 32 _ _) _ _));(show AW _ (.region _ _ false) _ _);refine kp ?_;refine AW.region ?_)))<;>(try refine' Zc0))
  |refine' Ze
  |((with_reducible show True);exact trivial)
  |refine' Zjh
  |exact sd
  |fail)
 all_goals(try clear nx)
 all_goals(apply_rules (newGoals:= .nonDependentOnly) only[dep];exact())):p:=h
theorem ZxL {p:Prop}(h:p:=by
 repeat' (first
  |refine' Zg
  |refine' Zl
  |((first
   |refine' ZaS
   |((with_reducible show AW _ _ _ _);first|((fail_if_success (show AW _ (.region 34 _ _) _ _));(show AW _ (.region _ _ false) _ _);refine kp ?_;refine AW.region ?_)))<;>(try refine' Zb1))
  |refine' Ze
  |((with_reducible show True);exact trivial)
  |refine' Z1
  |exact sd
  |fail)
 all_goals(try clear nx)
 all_goals(apply_rules (newGoals:= .nonDependentOnly) only[dep];exact())):p:=h
theorem Zio {p:Prop}(h:p:=by
 repeat' (first
  |refine' Zg
  |refine' Zx
  |refine' Zl
  |((first
   |refine' Zof
   |refine' Zu)<;>(try refine' Zc0))
  |refine' Ze
  |((with_reducible show True);exact trivial)
  |refine' ZhF
  |exact sd
  |fail)
 all_goals(try clear nx)
 all_goals(apply_rules (newGoals:= .nonDependentOnly) only[dep];exact())):p:=h
theorem ZxM {p:Prop}(h:p:=by
 repeat' (first
  |refine' Zg
  |refine' Zl
  |((first
   |refine' Zom
   |refine' Zu
   |refine' ZdP)<;>(try refine' ZbK))
  |refine' Ze
  |refine' ZdQ
  |refine' Zon
  |exact sd
  |fail)
 all_goals(try clear nx)
 all_goals(apply_rules (newGoals:= .nonDependentOnly) only[dep];exact())):p:=h
theorem Z0 {p:Prop}(h:p:=by
 repeat' (first
  |refine' Zg
  |refine' Zx
  |refine' Zl
  |((first
   |((with_reducible show AWL _ _ _ _ _);first|refine' Zos|(refine AWL.op (sl:=SLo) rfl rfl ?_ ?_)|refine AWL.cFM [(0,27),(1000,28000)] rfl rfl rfl rfl hcb rfl rfl rfl rfl (hone) ?_|refine' cl)
   |refine' Zu)<;>(try refine' Zan))
  |refine' Ze
  |((with_reducible show True);exact trivial)
  |refine' ZcA
  |exact sd
  |fail)
 all_goals(try clear nx)
 all_goals(apply_rules (newGoals:= .nonDependentOnly) only[dep];exact())):p:=h
theorem Zqb {p:Prop}(h:p:=by
 repeat' (first
  |refine' Zg
  |refine' Zl
  |((first
   |refine' ZtX
   |refine' Zu)<;>(try refine' ZbK))
  |refine' Ze
  |((with_reducible show True);exact trivial)
  |refine' Z1
  |exact sd
  |fail)
 all_goals(try clear nx)
 all_goals(apply_rules (newGoals:= .nonDependentOnly) only[dep];exact())):p:=h
theorem ZxN {p:Prop}(h:p:=by
 repeat' (first
  |refine' Zg
  |refine' Zl
  |((first
   |refine' Zua
   |refine' Zu)<;>(try refine' ZbK))
  |refine' Ze
  |((with_reducible show True);exact trivial)
  |refine' Z1
  |(focus ((first|refine' Zud|exact trivial|omega|assumption|refine' Zax|(show _<=_;omega)|refine' Zao|refine' Zad|refine' Za8);done))
  |fail)
 all_goals(try clear nx)
 all_goals(apply_rules (newGoals:= .nonDependentOnly) only[dep];exact())):p:=h
theorem ZfB {p:Prop}(h:p:=by
 repeat' (first
  |refine' Zg
  |refine' Zx
  |refine' Zl
  |((first
   |refine' ZaS
   |refine' Zu)<;>(try refine' Zc0))
  |refine' Ze
  |((with_reducible show True);exact trivial)
  |refine' Z1
  |exact sd
  |fail)
 all_goals(try clear nx)
 all_goals(apply_rules (newGoals:= .nonDependentOnly) only[dep];exact())):p:=h
theorem ZgP {p:Prop}(h:p:=by
 repeat' (first
  |refine' Za3
  |refine' Za4
  |refine' Zg
  |refine' Za5
  |((first
   |refine' Zjg
   |((with_reducible show CWr _ _ _ _ _ _ _ _ _ _ _ _ _ _);first|(refine CWr.op rfl ?_ ?_ ?_)|(refine CWr.call (f:=104) rfl ?_ rfl (hsi) (fun _ _ h=>h) ?_ ?_ ?_;(focus kernel_rfl)))
   |refine' Zc1
   |refine' Za6
   |refine' Zfg)<;>(try refine' ZkX))
  |refine' Ze
  |refine' Za7
  |refine' Z1
  |exact sd
  |fail)
 all_goals(try clear nx)
 all_goals(apply_rules (newGoals:= .nonDependentOnly) only[dep];exact())):p:=h
theorem Zqc {p:Prop}(h:p:=by
 repeat' (first
  |refine' Zg
  |refine' Zx
  |refine' Zl
  |((first
   |refine' Zt4
   |refine' Zu)<;>(try refine' Zan))
  |refine' Ze
  |((with_reducible show True);exact trivial)
  |refine' Zet
  |refine' Zeu
  |refine' ZbL
  |exact sd
  |fail)
 all_goals(try clear nx)
 all_goals(apply_rules (newGoals:= .nonDependentOnly) only[dep];exact())):p:=h
theorem ZgQ {p:Prop}(h:p:=by
 repeat' (first
  |refine' Zg
  |refine' Zx
  |refine' Zl
  |((first
   |refine' ZaS
   |refine' Zu)<;>(try refine' Zc0))
  |refine' Ze
  |((with_reducible show True);exact trivial)
  |refine' ZhF
  |exact sd
  |fail)
 all_goals(try clear nx)
 all_goals(apply_rules (newGoals:= .nonDependentOnly) only[dep];exact())):p:=h
theorem ZxO {p:Prop}(h:p:=by
 repeat' (first
  |refine' Zg
  |refine' Zx
  |refine' Zl
  |((first
   |((with_reducible show AWL _ _ _ _ _);first|refine' Zos|(refine AWL.op (sl:=SLo) rfl rfl ?_ ?_)|refine' Zue|refine AWL.guardU rfl rfl rfl rfl rfl rfl ?_|refine' cl)
   |refine' Zu)<;>(try refine' Zan))
  |refine' Ze
  |((with_reducible show True);exact trivial)
  |refine' ZcA
  |exact sd
  |fail)
 all_goals(try clear nx)
 all_goals(apply_rules (newGoals:= .nonDependentOnly) only[dep];exact())):p:=h
theorem ZxP {p:Prop}(h:p:=by
 repeat' (first
  |refine' Zg
  |refine' Zx
  |refine' Zl
  |((first
   |refine' Zce
   |refine' Zu
   |refine' ZdP)<;>(try refine' Zan))
  |refine' Ze
  |refine' ZdQ
  |refine' Zor
  |exact sd
  |fail)
 all_goals(try clear nx)
 all_goals(apply_rules (newGoals:= .nonDependentOnly) only[dep];exact())):p:=h
theorem Zew {p:Prop}(h:p:=by
 repeat' (first
  |(refine AWL.opN (sl:=SL) rfl rfl rfl trivial ?_;(try refine' ZkU))
  |(refine AW.seqQ ?_;intro Qn hQn)
  |(refine AW.blockQ ?_;intro Qn hQn)
  |refine AW.region ?_
  |refine' ZtN
  |refine FW.nil ?_
  |refine FW.pass rfl rfl ?_
  |refine FW.go rfl ?_
  |refine CW.skip rfl rfl ?_
  |refine CW.step rfl rfl rfl rfl rfl ?_
  |((first
   |refine' ZtO
   |refine' ZtP
   |refine' ZtQ
   |(refine AWL.op (sl:=SL) rfl rfl ?_ ?_)
   |(refine FW.float rfl rfl rfl rfl rfl ?_)
   |(refine CWr.op rfl ?_ ?_ ?_)
   |(refine CWr.assign rfl ?_ ?_)
   |(refine CWr.alloc rfl rfl rfl rfl ?_)
   |refine' ZtR
   |((show AWL _ _ ({ dst:=_,op:=_,type:=_,pos:=_,after:=_,guard:=none }::_) _ _);refine AWL.frzA rfl rfl ?_)
   |(refine AWL.callV (f:=138) rfl rfl rfl rfl ?_ (Yaa rfl) rfl (ZhL) ?_;(focus kernel_rfl))
   |(refine AWL.call (f:=138) rfl rfl rfl ?_ rfl (Yaa rfl) rfl (ZhL) ?_;(focus kernel_rfl))
   |(refine CWr.call (f:=138) rfl ?_ rfl (ZhL) (fun _ _ h=>h) ?_ ?_ ?_;(focus kernel_rfl))
   |(refine AWL.callV (f:=139) rfl rfl rfl rfl ?_ (Yaa rfl) rfl (ZhM) ?_;(focus kernel_rfl))
   |(refine AWL.call (f:=139) rfl rfl rfl ?_ rfl (Yaa rfl) rfl (ZhM) ?_;(focus kernel_rfl))
   |(refine CWr.call (f:=139) rfl ?_ rfl (ZhM) (fun _ _ h=>h) ?_ ?_ ?_;(focus kernel_rfl))
   |fail)<;>(try((first|show AWL _ _ _ _ _|show AW _ _ _ _|show FW _ _ _ _ _ _ _ _ _ _|show CW _ _ _ _ _ _ _ _ _ _ _ _|refine' ZhC);(try refine' ZkU))))
  |((first|refine' Zup|refine' Zun)<;>(intro hc;(try simp only[Bool.not_true,Bool.not_false]at hc);first|(cases hc;done)|refine' Zub)<;>(try(first|refine' Zuo|refine' Zul);(try refine' ZkU)))
  |refine' ZtS
  |((first|refine' Zuf|refine AWL.guardU rfl rfl rfl rfl rfl rfl ?_|refine' Zk1);(try refine' ZkU))
  |refine CW.tail rfl ?_
  |refine' ZtT
  |((refine Zf4.mk rfl rfl rfl ?_ ?_ ?_;(focus (first|exact Or.inl rfl|exact Or.inr rfl)))<;>(try simp(disch:=omega) only[NSX,Nat.reduceBEq,Nat.reduceAdd,Nat.reduceMul,Int.reduceToNat,Nat.reduceSub,TY,List.set_cons_zero,List.set_cons_succ,SLS,Zb,Zb5,Zas,O5,O11,nx]))
  |exact sd
  |fail)
 all_goals(try clear nx)
 all_goals(apply_rules (newGoals:= .nonDependentOnly) only[dep];exact())):p:=h
theorem ZcJ {p:Prop}(h:p:=by
 repeat' (first
  |refine' Zg
  |refine' Zl
  |((first
   |refine' Zoe
   |refine' Zu)<;>(try refine' Zb1))
  |refine' Ze
  |((with_reducible show True);exact trivial)
  |refine' Z1
  |exact sd
  |fail)
 all_goals(try clear nx)
 all_goals(apply_rules (newGoals:= .nonDependentOnly) only[dep];exact())):p:=h
theorem Zip {p:Prop}(h:p:=by
 repeat' (first
  |refine' Zg
  |refine' Zl
  |((first
   |refine' ZhE
   |refine' Zu)<;>(try refine' Zb1))
  |refine' Ze
  |((with_reducible show True);exact trivial)
  |refine' Z1
  |exact sd
  |fail)
 all_goals(try clear nx)
 all_goals(apply_rules (newGoals:= .nonDependentOnly) only[dep];exact())):p:=h
theorem ZxQ {p:Prop}(h:p:=by
 repeat' (first
  |refine' Zg
  |refine' Zx
  |refine' Zl
  |((first
   |refine' ZhE
   |((with_reducible show AW _ _ _ _);first|((fail_if_success (show AW _ (.region 4 _ _) _ _));(show AW _ (.region _ _ false) _ _);refine kp ?_;refine AW.region ?_)))<;>(try refine' Zan))
  |refine' Ze
  |((with_reducible show True);exact trivial)
  |refine' ZcA
  |exact sd
  |fail)
 all_goals(try clear nx)
 all_goals(apply_rules (newGoals:= .nonDependentOnly) only[dep];exact())):p:=h
theorem Zk8 {p:Prop}(h:p:=by
 repeat' (first
  |refine' Zg
  |refine' Zl
  |((first
   |((with_reducible show AWL _ _ _ _ _);first|refine' ZaD|refine' Zoi|refine' Zk0|(refine AWL.op (sl:=SL) rfl rfl ?_ ?_))
   |refine' Zu)<;>(try refine' Zb1))
  |refine' Ze
  |((with_reducible show True);exact trivial)
  |refine' Z1
  |exact sd
  |fail)
 all_goals(try clear nx)
 all_goals(apply_rules (newGoals:= .nonDependentOnly) only[dep];exact())):p:=h
theorem ZxR {p:Prop}(h:p:=by
 repeat' (first
  |refine' Zg
  |refine' Zl
  |((first
   |refine' Zoj
   |refine' ZtU)<;>(try refine' Zb1))
  |refine' Ze
  |((with_reducible show True);exact trivial)
  |refine' Zok
  |exact sd
  |fail)
 all_goals(try clear nx)
 all_goals(apply_rules (newGoals:= .nonDependentOnly) only[dep];exact())):p:=h
theorem ZEo {p:Prop}(h:p:=by
 repeat' (first
  |refine' Za3
  |refine' Za4
  |refine' Zg
  |refine' Za5
  |((first
   |((with_reducible show AWL _ _ _ _ _);first|refine' ZaD|(refine AWL.allocF (t:=182) rfl rfl rfl rfl rfl rfl ?_)|(refine AWL.op (sl:=SL) rfl rfl ?_ ?_)|refine' Zb2|refine AWL.guardU rfl rfl rfl rfl rfl rfl ?_|refine' cl)
   |((with_reducible show CWr _ _ _ _ _ _ _ _ _ _ _ _ _ _);first|(refine CWr.allocF (t:=182) rfl rfl rfl ?_ ?_)|(refine CWr.op rfl ?_ ?_ ?_)|(refine CWr.alloc rfl rfl rfl rfl ?_)|(refine CWr.call (f:=163) rfl ?_ rfl (number_ok _ _ ?_ ?_) (fun _ _ h=>h) ?_ ?_ ?_;(focus kernel_rfl)))
   |refine' Zc1
   |refine' Za6
   |((with_reducible show AW _ _ _ _);first|refine' Zgl|((show AW _ (.region 7 _ true) _ _);refine kp ?_;refine AW.calm false [] [7] (id:=7) Zjo ?hpan ?hchkc rfl ?_;(case hchkc=>(as_aux_lemma=>kernel_rfl));(case hpan=>(first|assumption|exact Zh|exact Zd|refine' Zol|exact Zo (by assumption))))|refine' Zuc))<;>(try refine' ZkX))
  |refine' Ze
  |refine' Za7
  |refine' Z1
  |exact sd
  |fail)
 all_goals(try clear nx)
 all_goals(apply_rules (newGoals:= .nonDependentOnly) only[dep];exact())):p:=h
theorem Zex {p:Prop}(h:p:=by
 repeat' (first
  |refine' Zg
  |refine' Zx
  |refine' Zl
  |((first
   |refine' Zce
   |refine' Zu)<;>(try refine' Zan))
  |refine' Ze
  |((with_reducible show True);exact trivial)
  |refine' Zet
  |refine' ZtY
  |refine' Zeu
  |refine' ZtZ
  |refine' ZbL
  |exact sd
  |fail)
 all_goals(try clear nx)
 all_goals(apply_rules (newGoals:= .nonDependentOnly) only[dep];exact())):p:=h
theorem ZxS {p:Prop}(h:p:=by
 repeat' (first
  |refine' Zg
  |refine' Zl
  |((first
   |refine' Zov
   |refine' Zu
   |refine' ZdP)<;>(try refine' ZbK))
  |refine' Ze
  |refine' ZdQ
  |refine' Z1
  |exact sd
  |fail)
 all_goals(try clear nx)
 all_goals(apply_rules (newGoals:= .nonDependentOnly) only[dep];exact())):p:=h
theorem ZfC {p:Prop}(h:p:=by
 repeat' (first
  |refine' Zg
  |refine' Zx
  |refine' Zl
  |((first
   |refine' ZhE
   |refine' Zu)<;>(try refine' Zan))
  |refine' Ze
  |((with_reducible show True);exact trivial)
  |refine' ZcA
  |exact sd
  |fail)
 all_goals(try clear nx)
 all_goals(apply_rules (newGoals:= .nonDependentOnly) only[dep];exact())):p:=h
theorem Zqd {p:Prop}(h:p:=by
 repeat' (first
  |refine' Zg
  |refine' Zx
  |refine' Zl
  |((first
   |refine' Zce
   |refine' Zu)<;>(try refine' Zan))
  |refine' Ze
  |((with_reducible show True);exact trivial)
  |refine' ZtV
  |refine' ZtW
  |refine' ZbL
  |exact sd
  |fail)
 all_goals(try clear nx)
 all_goals(apply_rules (newGoals:= .nonDependentOnly) only[dep];exact())):p:=h
theorem ZfD {p:Prop}(h:p:=by
 repeat' (first
  |refine' Za3
  |refine' Za4
  |refine' Zg
  |refine' Zx
  |refine' Za5
  |((first
   |refine' Zjg
   |refine' Zjf
   |refine' Zc1
   |refine' Za6
   |refine' Zfg)<;>(try refine' Zjd))
  |refine' Ze
  |refine' Za7
  |refine' ZhF
  |exact sd
  |fail)
 all_goals(try clear nx)
 all_goals(apply_rules (newGoals:= .nonDependentOnly) only[dep];exact())):p:=h
theorem ZgR {p:Prop}(h:p:=by
 repeat' (first
  |refine' Zg
  |refine' Zl
  |((first
   |refine' Zjg
   |refine' Zu)<;>(try refine' Zb1))
  |refine' Ze
  |((with_reducible show True);exact trivial)
  |refine' Z1
  |exact sd
  |fail)
 all_goals(try clear nx)
 all_goals(apply_rules (newGoals:= .nonDependentOnly) only[dep];exact())):p:=h
theorem Ziq {p:Prop}(h:p:=by
 repeat' (first
  |refine' Zg
  |refine' Zx
  |refine' ZhH
  |((first
   |refine' Zce
   |((with_reducible show DQ _ _ _ _ _ _);first|(refine DQ.op rfl rfl rfl rfl rfl ?_ ?_)|refine' Zk2|(refine DQ.step rfl rfl rfl rfl (Zdi.call (f:=75) rfl ?_ rfl (hu) (fun _ _ h=>h) (fun _=>rfl)) ?_;(focus kernel_rfl))|refine DQ.tail rfl ?_)
   |refine' ZhI
   |(first|(refine DQ.yes rfl ?_ ?_)|(refine DQ.yesC (Zdi.call (f:=75) rfl ?_ rfl (hu) (fun _ _ h=>h) (fun _=>rfl)) ?_;(focus kernel_rfl))))<;>(try refine' Zan))
  |refine' Ze
  |((with_reducible show True);exact trivial)
  |refine' Zet
  |refine' Zeu
  |refine' ZbL
  |exact sd
  |fail)
 all_goals(try clear nx)
 all_goals(apply_rules (newGoals:= .nonDependentOnly) only[dep];exact())):p:=h
theorem Zk9 {p:Prop}(h:p:=by
 repeat' (first
  |refine' Zg
  |refine' Zx
  |refine' Zl
  |((first
   |refine' Zk4
   |refine' Zu)<;>(try refine' Zan))
  |refine' Ze
  |((with_reducible show True);exact trivial)
  |refine' ZcA
  |exact sd
  |fail)
 all_goals(try clear nx)
 all_goals(apply_rules (newGoals:= .nonDependentOnly) only[dep];exact())):p:=h
theorem Zey {p:Prop}(h:p:=by
 repeat' (first
  |refine' Zg
  |refine' Zl
  |((first
   |refine' ZkZ
   |refine' Zu)<;>(try refine' Zb1))
  |refine' Ze
  |((with_reducible show True);exact trivial)
  |refine' Z1
  |exact sd
  |fail)
 all_goals(try clear nx)
 all_goals(apply_rules (newGoals:= .nonDependentOnly) only[dep];exact())):p:=h
theorem Zqe {p:Prop}(h:p:=by
 repeat' (first
  |refine' Zg
  |refine' Zx
  |refine' ZhH
  |((first
   |refine' Zce
   |((with_reducible show DQ _ _ _ _ _ _);first|(refine DQ.op rfl rfl rfl rfl rfl ?_ ?_)|refine' Zk2|(refine DQ.step rfl rfl rfl rfl (Zdi.call (f:=135) rfl ?_ rfl (hread) (fun _ _ h=>h) (fun _=>rfl)) ?_;(focus kernel_rfl))|refine DQ.tail rfl ?_)
   |refine' ZhI
   |(first|(refine DQ.yes rfl ?_ ?_)|(refine DQ.yesC (Zdi.call (f:=135) rfl ?_ rfl (hread) (fun _ _ h=>h) (fun _=>rfl)) ?_;(focus kernel_rfl))))<;>(try refine' Zan))
  |refine' Ze
  |((with_reducible show True);exact trivial)
  |refine' Zet
  |refine' Zeu
  |refine' ZbL
  |exact sd
  |fail)
 all_goals(try clear nx)
 all_goals(apply_rules (newGoals:= .nonDependentOnly) only[dep];exact())):p:=h
theorem Zla {p:Prop}(h:p:=by
 repeat' (first
  |refine' Za3
  |refine' Za4
  |refine' Zg
  |refine' Za5
  |((first
   |refine' Zt7
   |refine' Zt9
   |refine' Zt8
   |refine' Za6
   |refine' Zff)<;>(try refine' ZdO))
  |refine' Ze
  |refine' Za7
  |refine' Z1
  |exact sd
  |fail)
 all_goals(try clear nx)
 all_goals(apply_rules (newGoals:= .nonDependentOnly) only[dep];exact())):p:=h
theorem Zbf {p:Prop}(h:p:=by
 repeat' (first
  |refine' Za3
  |refine' Za4
  |refine' Zg
  |refine' Za5
  |((first
   |refine' ZhE
   |((with_reducible show CWr _ _ _ _ _ _ _ _ _ _ _ _ _ _);first|(refine CWr.op rfl ?_ ?_ ?_)|(refine CWr.call (f:=105) rfl ?_ rfl (w0) (fun _ _ h=>h) ?_ ?_ ?_;(focus kernel_rfl))|(refine CWr.call (f:=105) rfl ?_ rfl (w1) (fun _ _ h=>h) ?_ ?_ ?_;(focus kernel_rfl))|(refine CWr.call (f:=105) rfl ?_ rfl (w2) (fun _ _ h=>h) ?_ ?_ ?_;(focus kernel_rfl))|(refine CWr.call (f:=105) rfl ?_ rfl (w3) (fun _ _ h=>h) ?_ ?_ ?_;(focus kernel_rfl)))
   |refine' ZhG
   |refine' Za6
   |refine' Zff)<;>(try refine' ZdO))
  |refine' Ze
  |refine' Za7
  |refine' Z1
  |exact sd
  |fail)
 all_goals(try clear nx)
 all_goals(apply_rules (newGoals:= .nonDependentOnly) only[dep];exact())):p:=h
theorem Zqf {p:Prop}(h:p:=by
 repeat' (first
  |refine' Zg
  |refine' Zl
  |((first
   |refine' ZaS
   |refine' Zoo)<;>(try refine' Zb1))
  |refine' Ze
  |((with_reducible show True);exact trivial)
  |refine' Z1
  |exact sd
  |fail)
 all_goals(try clear nx)
 all_goals(apply_rules (newGoals:= .nonDependentOnly) only[dep];exact())):p:=h
theorem ZfE {p:Prop}(h:p:=by
 repeat' (first
  |refine' Za3
  |refine' Za4
  |refine' Zg
  |refine' Za5
  |((first
   |refine' ZaS
   |refine' Zt9
   |refine' ZhG
   |refine' Za6
   |refine' Zff)<;>(try refine' ZdO))
  |refine' Ze
  |refine' Za7
  |refine' Z1
  |exact sd
  |fail)
 all_goals(try clear nx)
 all_goals(apply_rules (newGoals:= .nonDependentOnly) only[dep];exact())):p:=h
theorem ZxT {p:Prop}(h:p:=by
 repeat' (first
  |refine' Zk5
  |refine' Zl
  |((first
   |((with_reducible show AWL _ _ _ _ _);first|refine' ZaD|(refine AWL.op (sl:=SL) rfl rfl ?_ ?_)|refine AWL.mkM rfl rfl rfl rfl ?_|refine' Zb2|refine AWL.guardU rfl rfl rfl rfl rfl rfl ?_)
   |refine' Zu)<;>(try refine' ZbK))
  |refine' Ze
  |((with_reducible show True);exact trivial)
  |refine' Z1
  |exact sd
  |fail)
 all_goals(try clear nx)
 all_goals(apply_rules (newGoals:= .nonDependentOnly) only[dep];exact())):p:=h
theorem ZgS {p:Prop}(h:p:=by
 repeat' (first
  |refine' Zg
  |refine' Zx
  |refine' ZhH
  |((first
   |refine' Zk4
   |((with_reducible show DQ _ _ _ _ _ _);first|(refine DQ.op rfl rfl rfl rfl rfl ?_ ?_)|refine' Zk2|(refine DQ.step rfl rfl rfl rfl (Zdi.call (f:=60) rfl ?_ rfl (hmust) (fun _ _ h=>h) (fun _=>rfl)) ?_;(focus kernel_rfl))|(refine DQ.guard2 rfl rfl rfl rfl rfl rfl rfl ?_ ?_<;>(intro hc;(try simp only[Bool.not_true,Bool.not_false]at hc);first|(cases hc;done)|refine' ZhD))|refine DQ.guardU rfl rfl rfl rfl rfl rfl rfl ?_|refine DQ.tail rfl ?_)
   |refine' ZhI
   |(first|(refine DQ.yes rfl ?_ ?_)|(refine DQ.yesC (Zdi.call (f:=60) rfl ?_ rfl (hmust) (fun _ _ h=>h) (fun _=>rfl)) ?_;(focus kernel_rfl))))<;>(try refine' Zan))
  |refine' Ze
  |((with_reducible show True);exact trivial)
  |refine' ZcA
  |exact sd
  |fail)
 all_goals(try clear nx)
 all_goals(apply_rules (newGoals:= .nonDependentOnly) only[dep];exact())):p:=h
theorem Zqg {p:Prop}(h:p:=by
 repeat' (first
  |refine' Zg
  |refine' Zx
  |refine' Zl
  |((first
   |((with_reducible show AWL _ _ _ _ _);first|refine' ZaD|(refine AWL.op (sl:=SL) rfl rfl ?_ ?_)|refine' Zue|refine AWL.guardU rfl rfl rfl rfl rfl rfl ?_|refine' cl)
   |refine' Zu)<;>(try refine' Zan))
  |refine' Ze
  |((with_reducible show True);exact trivial)
  |refine' ZcA
  |exact sd
  |fail)
 all_goals(try clear nx)
 all_goals(apply_rules (newGoals:= .nonDependentOnly) only[dep];exact())):p:=h
theorem ZfF {p:Prop}(h:p:=by
 repeat' (first
  |refine' Za3
  |refine' Za4
  |refine' Zg
  |refine' Zx
  |refine' Za5
  |((first
   |((with_reducible show AWL _ _ _ _ _);first|refine AWL.frzSt 3006023 rfl rfl ?_|refine' ZaD|(refine AWL.op (sl:=SL) rfl rfl ?_ ?_)|refine' Zfd|refine' Zfe|refine' Zb2|refine AWL.guardU rfl rfl rfl rfl rfl rfl ?_|refine' cl)
   |refine' Zjf
   |refine' Zc1
   |refine' Za6
   |refine' Zfg)<;>(try refine' Zjd))
  |refine' Ze
  |refine' Za7
  |refine' Z1
  |exact sd
  |fail)
 all_goals(try clear nx)
 all_goals(apply_rules (newGoals:= .nonDependentOnly) only[dep];exact())):p:=h
theorem Zlb {p:Prop}(h:p:=by
 repeat' (first
  |refine' Zg
  |refine' Zx
  |refine' ZhH
  |((first
   |refine' Zce
   |refine' Zop
   |refine' ZhI
   |(first|(refine DQ.yes rfl ?_ ?_)))<;>(try refine' Zan))
  |refine' Ze
  |((with_reducible show True);exact trivial)
  |refine' Zet
  |refine' ZtY
  |refine' Zeu
  |refine' ZtZ
  |refine' ZbL
  |exact sd
  |fail)
 all_goals(try clear nx)
 all_goals(apply_rules (newGoals:= .nonDependentOnly) only[dep];exact())):p:=h
theorem ZxU {p:Prop}(h:p:=by
 repeat' (first
  |refine' Zg
  |refine' Zl
  |((first
   |refine' ZaS
   |refine' Zu
   |refine' ZdP)<;>(try refine' Zb1))
  |refine' Ze
  |refine' ZdQ
  |refine' Z1
  |exact sd
  |fail)
 all_goals(try clear nx)
 all_goals(apply_rules (newGoals:= .nonDependentOnly) only[dep];exact())):p:=h
theorem ZxV {p:Prop}(h:p:=by
 repeat' (first
  |refine' Za3
  |refine' Za4
  |refine' Zg
  |refine' Za5
  |((first
   |refine' Zt0
   |refine' Zjf
   |refine' Zc1
   |refine' Za6
   |refine' Zfg)<;>(try refine' ZkX))
  |refine' Ze
  |refine' Za7
  |refine' Z1
  |exact sd
  |fail)
 all_goals(try clear nx)
 all_goals(apply_rules (newGoals:= .nonDependentOnly) only[dep];exact())):p:=h
theorem Zlc {p:Prop}(h:p:=by
 repeat' (first
  |refine' Za3
  |refine' Za4
  |refine' Zg
  |refine' Za5
  |((first
   |refine' Zof
   |refine' Zog
   |refine' Zc1
   |refine' Za6
   |refine' Zff)<;>(try refine' ZdO))
  |refine' Ze
  |refine' Za7
  |refine' Z1
  |exact sd
  |fail)
 all_goals(try clear nx)
 all_goals(apply_rules (newGoals:= .nonDependentOnly) only[dep];exact())):p:=h
theorem ZxW {p:Prop}(h:p:=by
 repeat' (first
  |refine' Zg
  |refine' Zx
  |refine' Zl
  |((first
   |refine' ZaS
   |refine' Zoo)<;>(try refine' Zc0))
  |refine' Ze
  |((with_reducible show True);exact trivial)
  |refine' Z1
  |exact sd
  |fail)
 all_goals(try clear nx)
 all_goals(apply_rules (newGoals:= .nonDependentOnly) only[dep];exact())):p:=h
theorem ZfG {p:Prop}(h:p:=by
 repeat' (first
  |refine' Za3
  |refine' Za4
  |refine' Zg
  |refine' Za5
  |((first
   |refine' ZaS
   |refine' Zt6
   |refine' ZhG
   |refine' Za6
   |refine' Zff)<;>(try refine' ZdO))
  |refine' Ze
  |refine' Za7
  |refine' Z1
  |exact sd
  |fail)
 all_goals(try clear nx)
 all_goals(apply_rules (newGoals:= .nonDependentOnly) only[dep];exact())):p:=h
theorem ZxX {p:Prop}(h:p:=by
 repeat' (first
  |refine' Zg
  |refine' Zl
  |((first
   |refine' ZkZ
   |refine' Zu)<;>(try refine' ZbK))
  |refine' Ze
  |((with_reducible show True);exact trivial)
  |refine' Z1
  |exact sd
  |fail)
 all_goals(try clear nx)
 all_goals(apply_rules (newGoals:= .nonDependentOnly) only[dep];exact())):p:=h
theorem ZxY {p:Prop}(h:p:=by
 repeat' (first
  |refine' Zg
  |refine' Zji
  |refine' Zl
  |((first
   |refine' ZaS
   |((with_reducible show AW _ _ _ _);first|((fail_if_success (show AW _ (.region 13 _ _) _ _));(show AW _ (.region _ _ false) _ _);refine kp ?_;refine AW.region ?_)))<;>(try refine' Zje))
  |refine' Ze
  |((with_reducible show True);exact trivial)
  |refine' Zjj
  |exact sd
  |fail)
 all_goals(try clear nx)
 all_goals(apply_rules (newGoals:= .nonDependentOnly) only[dep];exact())):p:=h
theorem ZxZ {p:Prop}(h:p:=by
 repeat' (first
  |refine' Za3
  |refine' Za4
  |refine' Zg
  |refine' Za5
  |((first
   |((with_reducible show AWL _ _ _ _ _);first|refine' ZaD|refine' Zoi|refine' Zk0|(refine AWL.op (sl:=SL) rfl rfl ?_ ?_)|refine' cl)
   |((with_reducible show CWr _ _ _ _ _ _ _ _ _ _ _ _ _ _);first|(refine CWr.op rfl ?_ ?_ ?_)|(refine CWr.callA (f:=176) rfl ?_ ?_ (ZuR ?_ ?_ ?_ ?_ ?_) rfl (fun _ _ h=>h) rfl ⟨ZmR rfl,(by repeat' (first|exact Ztl|refine nvm_cons ?_ ?_|exact nv_nums _ _|exact nv_all rfl))⟩ ?_ ?_ ?_;(focus kernel_rfl);(focus (simp(disch:=omega) only[VW,List.toList_toArray,List.map_cons,List.map_nil,NM,Nat.reduceBEq,reduceAdd,reduceMul,Int.reduceToNat,reduceSub,List.set_cons_zero,List.set_cons_succ,nx];(try exact rfl);done))))
   |refine' Zc1
   |refine' Za6
   |((with_reducible show AW _ _ _ _);first|refine' Zgl|refine' Zuc))<;>(try((first|refine' ZkV|(rintro _ _ ⟨rfl,rfl⟩;(try refine And.intro rfl ?_);(try refine And.intro ⟨ZmR rfl,(by repeat' (first|exact Ztl|refine nvm_cons ?_ ?_|exact nv_nums _ _|exact nv_all rfl))⟩ ?_)));(try refine' Zf))))
  |refine' Ze
  |refine' Za7
  |refine' Z1
  |exact sd
  |fail)
 all_goals(try clear nx)
 all_goals(apply_rules (newGoals:= .nonDependentOnly) only[dep];exact())):p:=h
theorem Zqh {p:Prop}(h:p:=by
 repeat' (first
  |refine' Zg
  |refine' Zx
  |refine' Zl
  |((first
   |refine' ZaS
   |refine' Zu
   |refine' ZdP)<;>(try refine' Zc0))
  |refine' Ze
  |refine' ZdQ
  |refine' Z1
  |exact sd
  |fail)
 all_goals(try clear nx)
 all_goals(apply_rules (newGoals:= .nonDependentOnly) only[dep];exact())):p:=h
theorem Zqi {p:Prop}(h:p:=by
 repeat' (first
  |refine' Za3
  |refine' Za4
  |refine' Zg
  |refine' Za5
  |((first
   |refine' ZkZ
   |refine' Zjf
   |refine' Zc1
   |refine' Za6
   |refine' Zff)<;>(try refine' ZdO))
  |refine' Ze
  |refine' Za7
  |refine' Z1
  |exact sd
  |fail)
 all_goals(try clear nx)
 all_goals(apply_rules (newGoals:= .nonDependentOnly) only[dep];exact())):p:=h
theorem Zqj {p:Prop}(h:p:=by
 repeat' (first
  |refine' Za3
  |refine' Za4
  |refine' Zg
  |refine' Zx
  |refine' Za5
  |((first
   |refine' ZaS
   |refine' Zjf
   |refine' ZhG
   |refine' Za6
   |refine' Zfg)<;>(try refine' Zjd))
  |refine' Ze
  |refine' Za7
  |refine' ZhF
  |exact sd
  |fail)
 all_goals(try clear nx)
 all_goals(apply_rules (newGoals:= .nonDependentOnly) only[dep];exact())):p:=h
theorem ZgT {p:Prop}(h:p:=by
 repeat' (first
  |refine' Za3
  |refine' Za4
  |refine' Zg
  |refine' Za5
  |((first
   |refine' ZaS
   |refine' Zog
   |refine' Zc1
   |refine' Za6
   |refine' Zfg)<;>(try refine' ZkX))
  |refine' Ze
  |refine' Za7
  |refine' Z1
  |exact sd
  |fail)
 all_goals(try clear nx)
 all_goals(apply_rules (newGoals:= .nonDependentOnly) only[dep];exact())):p:=h
theorem Zir {p:Prop}(h:p:=by
 repeat' (first
  |refine' Zg
  |refine' Zl
  |((first
   |refine' Zoj
   |refine' Zu
   |refine' ZdP)<;>(try refine' Zb1))
  |refine' Ze
  |refine' ZdQ
  |refine' Zok
  |exact sd
  |fail)
 all_goals(try clear nx)
 all_goals(apply_rules (newGoals:= .nonDependentOnly) only[dep];exact())):p:=h
theorem Zx0 {p:Prop}(h:p:=by
 repeat' (first
  |refine' Zk5
  |refine' Zx
  |refine' Zl
  |((first
   |refine' Zou
   |((with_reducible show AW _ _ _ _);first|((fail_if_success (show AW _ (.region 12 _ _) _ _));(show AW _ (.region _ _ false) _ _);refine kp ?_;refine AW.region ?_)))<;>(try refine' Zan))
  |refine' Ze
  |((with_reducible show True);exact trivial)
  |fail
  |refine' ZbL
  |exact sd
  |fail)
 all_goals(try clear nx)
 all_goals(apply_rules (newGoals:= .nonDependentOnly) only[dep];exact())):p:=h
theorem Zx1 {p:Prop}(h:p:=by
 repeat' (first
  |refine' Zg
  |refine' Zji
  |refine' Zl
  |((first
   |refine' ZaS
   |((with_reducible show AW _ _ _ _);first|((fail_if_success (show AW _ (.region 16 _ _) _ _));(show AW _ (.region _ _ false) _ _);refine kp ?_;refine AW.region ?_)))<;>(try refine' Zje))
  |refine' Ze
  |((with_reducible show True);exact trivial)
  |refine' Zjj
  |exact sd
  |fail)
 all_goals(try clear nx)
 all_goals(apply_rules (newGoals:= .nonDependentOnly) only[dep];exact())):p:=h
theorem ZgU {p:Prop}(h:p:=by
 repeat' (first
  |refine' Zoq
  |refine' Zg
  |refine' Zx
  |refine' Zl
  |((first
   |refine' Zce
   |refine' Zu)<;>(try refine' Zan))
  |refine' Ze
  |((with_reducible show True);exact trivial)
  |refine' Zt2
  |refine' Zt3
  |refine' ZbL
  |exact sd
  |fail)
 all_goals(try clear nx)
 all_goals(apply_rules (newGoals:= .nonDependentOnly) only[dep];exact())):p:=h
theorem Zx2 {p:Prop}(h:p:=by
 repeat' (first
  |refine' Zg
  |refine' Zji
  |refine' Zl
  |((first
   |refine' ZaS
   |refine' Zt1)<;>(try refine' Zje))
  |refine' Ze
  |((with_reducible show True);exact trivial)
  |refine' Zjj
  |exact sd
  |fail)
 all_goals(try clear nx)
 all_goals(apply_rules (newGoals:= .nonDependentOnly) only[dep];exact())):p:=h
theorem Zx3 {p:Prop}(h:p:=by
 repeat' (first
  |refine' Zg
  |refine' Zl
  |((first
   |refine' Zoj
   |((with_reducible show AW _ _ _ _);first|((fail_if_success (show AW _ (.region 7 _ _) _ _));(show AW _ (.region _ _ false) _ _);refine kp ?_;refine AW.region ?_)))<;>(try refine' Zb1))
  |refine' Ze
  |((with_reducible show True);exact trivial)
  |refine' Zok
  |exact sd
  |fail)
 all_goals(try clear nx)
 all_goals(apply_rules (newGoals:= .nonDependentOnly) only[dep];exact())):p:=h
theorem Zld {p:Prop}(h:p:=by
 repeat' (first
  |refine' Zg
  |refine' Zx
  |refine' Zl
  |((first
   |refine' Zk3
   |refine' Zu
   |refine' ZdP)<;>(try refine' Zc0))
  |refine' Ze
  |refine' ZdQ
  |refine' Zjh
  |exact sd
  |fail)
 all_goals(try clear nx)
 all_goals(apply_rules (newGoals:= .nonDependentOnly) only[dep];exact())):p:=h
theorem Zx4 {p:Prop}(h:p:=by
 repeat' (first
  |refine' Zg
  |refine' Zji
  |refine' Zl
  |((first
   |refine' ZaS
   |((with_reducible show AW _ _ _ _);first|((fail_if_success (show AW _ (.region 2 _ _) _ _));(show AW _ (.region _ _ false) _ _);refine kp ?_;refine AW.region ?_)))<;>(try refine' Zje))
  |refine' Ze
  |((with_reducible show True);exact trivial)
  |refine' Zjj
  |exact sd
  |fail)
 all_goals(try clear nx)
 all_goals(apply_rules (newGoals:= .nonDependentOnly) only[dep];exact())):p:=h
theorem Zx5 {p:Prop}(h:p:=by
 repeat' (first
  |refine' Zg
  |refine' Zx
  |refine' Zl
  |((first
   |((with_reducible show AWL _ _ _ _ _);first|refine' ZaD|(refine AWL.op (sl:=SL) rfl rfl ?_ ?_)|refine AWL.pan rfl rfl rfl ⟨_,_,rfl⟩ ?_|refine' Zum|refine' cl)
   |refine' Zu)<;>(try refine' Zan))
  |refine' Ze
  |((with_reducible show True);exact trivial)
  |refine' ZtV
  |refine' ZtW
  |refine' ZbL
  |exact sd
  |fail)
 all_goals(try clear nx)
 all_goals(apply_rules (newGoals:= .nonDependentOnly) only[dep];exact())):p:=h
theorem Zx6 {p:Prop}(h:p:=by
 repeat' (first
  |refine' Zg
  |refine' Zx
  |refine' Zl
  |((first
   |refine' ZaS
   |((with_reducible show AW _ _ _ _);first|((fail_if_success (show AW _ (.region 20 _ _) _ _));(show AW _ (.region _ _ false) _ _);refine kp ?_;refine AW.region ?_)))<;>(try refine' Zc0))
  |refine' Ze
  |((with_reducible show True);exact trivial)
  |refine' Z1
  |exact sd
  |fail)
 all_goals(try clear nx)
 all_goals(apply_rules (newGoals:= .nonDependentOnly) only[dep];exact())):p:=h
theorem ZEp {p:Prop}(h:p:=by
 repeat' (first
  |refine' Zg
  |refine' Zl
  |((first
   |refine' Zoe
   |refine' Zu)<;>(try refine' Zb1))
  |refine' Ze
  |((with_reducible show True);exact trivial)
  |refine' Z1
  |(focus ((first|refine' Zud|exact trivial|omega|assumption|refine' Zax|(show _<=_;omega)|refine' Zao|refine' Zad|refine' Zk6);done))
  |fail)
 all_goals(try clear nx)
 all_goals(apply_rules (newGoals:= .nonDependentOnly) only[dep];exact())):p:=h
theorem Zx7 {p:Prop}(h:p:=by
 repeat' (first
  |refine' Zg
  |refine' Zx
  |refine' Zl
  |((first
   |refine' Zce
   |refine' Zu)<;>(try refine' Zan))
  |refine' Ze
  |((with_reducible show True);exact trivial)
  |refine' Zor
  |exact sd
  |fail)
 all_goals(try clear nx)
 all_goals(apply_rules (newGoals:= .nonDependentOnly) only[dep];exact())):p:=h
theorem Zle {p:Prop}(h:p:=by
 repeat' (first
  |refine' Za3
  |refine' Za4
  |refine' Zg
  |refine' Zx
  |refine' Za5
  |((first
   |refine' Zjg
   |((with_reducible show CWr _ _ _ _ _ _ _ _ _ _ _ _ _ _);first|(refine CWr.op rfl ?_ ?_ ?_)|(refine CWr.assign rfl ?_ ?_)|(refine CWr.call (f:=75) rfl ?_ rfl (hu) (fun _ _ h=>h) ?_ ?_ ?_;(focus kernel_rfl)))
   |refine' Zc1
   |refine' Za6
   |refine' Zfg)<;>(try refine' Zjd))
  |refine' Ze
  |refine' Za7
  |refine' ZhF
  |exact sd
  |fail)
 all_goals(try clear nx)
 all_goals(apply_rules (newGoals:= .nonDependentOnly) only[dep];exact())):p:=h
theorem Zqk {p:Prop}(h:p:=by
 repeat' (first
  |refine' Za3
  |refine' Za4
  |refine' Zg
  |refine' Za5
  |((first
   |refine' Zof
   |refine' Zog
   |refine' Zc1
   |refine' Za6
   |((with_reducible show AW _ _ _ _);first|refine' Zgl|((show AW _ (.region _ _ true) _ _);refine kp ?_;refine AW.calm false [] [] Zjo ?hpan ?hchkc rfl ?_;(case hchkc=>(as_aux_lemma=>kernel_rfl));(case hpan=>(first|assumption|exact Zh|exact Zd|exact ZaC|refine' Zoh|exact Zo (by assumption))))))<;>(try refine' ZdO))
  |refine' Ze
  |refine' Za7
  |refine' Z1
  |exact sd
  |fail)
 all_goals(try clear nx)
 all_goals(apply_rules (newGoals:= .nonDependentOnly) only[dep];exact())):p:=h
theorem Zis {p:Prop}(h:p:=by
 repeat' (first
  |refine' Zg
  |refine' Zl
  |((first
   |refine' ZhE
   |refine' Zu)<;>(try refine' ZbK))
  |refine' Ze
  |((with_reducible show True);exact trivial)
  |refine' Z1
  |exact sd
  |fail)
 all_goals(try clear nx)
 all_goals(apply_rules (newGoals:= .nonDependentOnly) only[dep];exact())):p:=h
theorem Zx8 {p:Prop}(h:p:=by
 repeat' (first
  |refine' Zg
  |refine' Zl
  |((first
   |((with_reducible show AWL _ _ _ _ _);first|refine' ZaD|(refine AWL.op (sl:=SL) rfl rfl ?_ ?_)|refine' Zot|(refine AWL.guard2 rfl rfl rfl rfl rfl rfl ?_ ?_<;>(intro hc;(try simp only[Bool.not_true,nx]at hc);first|(cases hc;done)|refine' ZhD))|refine AWL.guardU rfl rfl rfl rfl rfl rfl ?_|refine' cl)
   |refine' Zu)<;>(try refine' ZbK))
  |refine' Ze
  |((with_reducible show True);exact trivial)
  |refine' Z1
  |exact sd
  |fail)
 all_goals(try clear nx)
 all_goals(apply_rules (newGoals:= .nonDependentOnly) only[dep];exact())):p:=h
theorem Zql {p:Prop}(h:p:=by
 repeat' (first
  |refine' Za3
  |refine' Za4
  |refine' Zg
  |refine' Za5
  |((first
   |((with_reducible show AWL _ _ _ _ _);first|refine' ZaD|(refine AWL.op (sl:=SL) rfl rfl ?_ ?_)|refine AWL.pan rfl rfl rfl ⟨_,_,rfl⟩ ?_|refine' Zum|refine AWL.mkM rfl rfl rfl rfl ?_|refine' Zb2|refine AWL.guardU rfl rfl rfl rfl rfl rfl ?_|refine' cl)
   |((with_reducible show CWr _ _ _ _ _ _ _ _ _ _ _ _ _ _);first|(refine CWr.op rfl ?_ ?_ ?_)|(refine CWr.build0 rfl rfl ?_ ?_)|(refine CWr.app0 rfl rfl rfl rfl ?_ rfl ?_ ?_ ?_)|(refine CWr.assign rfl ?_ ?_)|(refine CWr.alloc rfl rfl rfl rfl ?_)|(refine CWr.build rfl rfl rfl rfl ?_ rfl rfl rfl ?_)|refine' Zug|refine' Zuh|refine' Zui|refine' Zuj)
   |refine' ZhG
   |refine' Za6
   |((with_reducible show AW _ _ _ _);first|((show AW _ (.region _ _ false) _ _);refine AW.region ?_)|((show AW _ (.region _ _ true) _ _);refine AW.calm true [] [] Zjo ?hpan ?hchkc rfl ?_;(case hchkc=>(as_aux_lemma=>kernel_rfl));(case hpan=>(first|assumption|exact Zh|exact Zd|exact ZaC|refine' Zoh|exact Zo (by assumption))))))<;>(try refine' ZdO))
  |refine' Ze
  |refine' Za7
  |refine' Z1
  |exact sd
  |fail)
 all_goals(try clear nx)
 all_goals(apply_rules (newGoals:= .nonDependentOnly) only[dep];exact())):p:=h
theorem Zx9 {p:Prop}(h:p:=by
 repeat' (first
  |refine' Zg
  |refine' Zl
  |((first
   |refine' ZaS
   |refine' Zu)<;>(try refine' ZbK))
  |refine' Ze
  |((with_reducible show True);exact trivial)
  |refine' Z1
  |exact sd
  |fail)
 all_goals(try clear nx)
 all_goals(apply_rules (newGoals:= .nonDependentOnly) only[dep];exact())):p:=h
theorem Zp {p:Prop}(h:p:=by
 repeat' (first
  |refine' Zoq
  |refine' Zg
  |refine' Zx
  |refine' Zl
  |((first
   |refine' Zce
   |refine' Zu)<;>(try refine' Zan))
  |refine' Ze
  |((with_reducible show True);exact trivial)
  |refine' Zet
  |refine' Zeu
  |refine' ZbL
  |exact sd
  |fail)
 all_goals(try clear nx)
 all_goals(apply_rules (newGoals:= .nonDependentOnly) only[dep];exact())):p:=h
theorem Zit {p:Prop}(h:p:=by
 repeat' (first
  |refine' Zg
  |refine' Zl
  |((first
   |refine' Zt0
   |refine' Zu)<;>(try refine' Zb1))
  |refine' Ze
  |((with_reducible show True);exact trivial)
  |refine' Z1
  |exact sd
  |fail)
 all_goals(try clear nx)
 all_goals(apply_rules (newGoals:= .nonDependentOnly) only[dep];exact())):p:=h
theorem ZbE {p:Prop}(h:p:=by
 repeat' (first
  |refine' Za3
  |refine' Za4
  |refine' Zg
  |refine' Za5
  |((first
   |refine' ZtX
   |((with_reducible show CWr _ _ _ _ _ _ _ _ _ _ _ _ _ _);first|(refine CWr.op rfl ?_ ?_ ?_)|refine' Zug|refine' Zuh|refine' Zui|refine' Zuj)
   |refine' ZhG
   |refine' Za6
   |refine' Zff)<;>(try refine' ZdO))
  |refine' Ze
  |refine' Za7
  |refine' Z1
  |exact sd
  |fail)
 all_goals(try clear nx)
 all_goals(apply_rules (newGoals:= .nonDependentOnly) only[dep];exact())):p:=h
theorem Zlf {p:Prop}(h:p:=by
 repeat' (first
  |refine' Zoq
  |refine' Zg
  |refine' Zx
  |refine' ZhH
  |((first
   |refine' Zce
   |refine' Zop
   |refine' ZhI
   |(first|(refine DQ.yes rfl ?_ ?_)))<;>(try refine' Zan))
  |refine' Ze
  |((with_reducible show True);exact trivial)
  |refine' Zet
  |refine' Zeu
  |refine' ZbL
  |exact sd
  |fail)
 all_goals(try clear nx)
 all_goals(apply_rules (newGoals:= .nonDependentOnly) only[dep];exact())):p:=h
theorem Zez {p:Prop}(h:p:=by
 repeat' (first
  |refine' Zg
  |refine' Zl
  |((first
   |refine' Zov
   |refine' Zu)<;>(try refine' ZbK))
  |refine' Ze
  |((with_reducible show True);exact trivial)
  |refine' Z1
  |exact sd
  |fail)
 all_goals(try clear nx)
 all_goals(apply_rules (newGoals:= .nonDependentOnly) only[dep];exact())):p:=h
theorem Zya {p:Prop}(h:p:=by
 repeat' (first
  |refine' Zg
  |refine' Zx
  |refine' Zl
  |((first
   |refine' Zk4
   |((with_reducible show AW _ _ _ _);first|((fail_if_success (show AW _ (.region 22 _ _) _ _));(show AW _ (.region _ _ false) _ _);refine kp ?_;refine AW.region ?_)))<;>(try refine' Zan))
  |refine' Ze
  |((with_reducible show True);exact trivial)
  |refine' ZcA
  |exact sd
  |fail)
 all_goals(try clear nx)
 all_goals(apply_rules (newGoals:= .nonDependentOnly) only[dep];exact())):p:=h
theorem Zyb {p:Prop}(h:p:=by
 repeat' (first
  |refine' Zg
  |refine' Zx
  |refine' Zl
  |((first
   |refine' Zk4
   |refine' Zu
   |refine' ZdP)<;>(try refine' Zan))
  |refine' Ze
  |refine' ZdQ
  |refine' ZcA
  |exact sd
  |fail)
 all_goals(try clear nx)
 all_goals(apply_rules (newGoals:= .nonDependentOnly) only[dep];exact())):p:=h
theorem Zyc {p:Prop}(h:p:=by
 repeat' (first
  |refine' Zg
  |refine' Zl
  |((first
   |refine' Zom
   |refine' Zu)<;>(try refine' ZbK))
  |refine' Ze
  |((with_reducible show True);exact trivial)
  |refine' Zon
  |exact sd
  |fail)
 all_goals(try clear nx)
 all_goals(apply_rules (newGoals:= .nonDependentOnly) only[dep];exact())):p:=h
theorem Zqm {p:Prop}(h:p:=by
 repeat' (first
  |(refine AWL.opN (sl:=SL) rfl rfl rfl trivial ?_;(try refine' ZkT))
  |(refine AW.seqQ ?_;intro Qn hQn)
  |(refine AW.blockQ ?_;intro Qn hQn)
  |refine AW.region ?_
  |refine' ZtN
  |refine FW.nil ?_
  |refine FW.pass rfl rfl ?_
  |refine FW.go rfl ?_
  |refine CW.skip rfl rfl ?_
  |refine CW.step rfl rfl rfl rfl rfl ?_
  |((first
   |refine' ZtO
   |refine' ZtP
   |refine' ZtQ
   |(refine AWL.op (sl:=SL) rfl rfl ?_ ?_)
   |(refine FW.float rfl rfl rfl rfl rfl ?_)
   |(refine CWr.op rfl ?_ ?_ ?_)
   |(refine CWr.assign rfl ?_ ?_)
   |(refine CWr.alloc rfl rfl rfl rfl ?_)
   |refine' ZtR
   |fail)<;>(try((first|show AWL _ _ _ _ _|show AW _ _ _ _|show FW _ _ _ _ _ _ _ _ _ _|show CW _ _ _ _ _ _ _ _ _ _ _ _|refine' ZhC);(try refine' ZkT))))
  |((first|refine' Zup|refine' Zun)<;>(intro hc;(try simp only[Bool.not_true,Bool.not_false]at hc);first|(cases hc;done)|refine' Zub)<;>(try(first|refine' Zuo|refine' Zul);(try refine' ZkT)))
  |refine' ZtS
  |((first|refine' Zuf|refine AWL.guardU rfl rfl rfl rfl rfl rfl ?_|refine' Zk1);(try refine' ZkT))
  |refine CW.tail rfl ?_
  |refine' ZtT
  |((refine Zf4.mk rfl rfl rfl ?_ ?_ ?_;(focus (first|exact Or.inl rfl|exact Or.inr rfl)))<;>(try simp(disch:=omega) only[NSX,Nat.reduceBEq,Nat.reduceAdd,Nat.reduceMul,Int.reduceToNat,Nat.reduceSub,TY,List.set_cons_zero,List.set_cons_succ,SLS,Zb,Zb5,Zas,nx]))
  |exact sd
  |fail)
 all_goals(try clear nx)
 all_goals(apply_rules (newGoals:= .nonDependentOnly) only[dep];exact())):p:=h
theorem Zyd {p:Prop}(h:p:=by
 repeat' (first
  |refine' Zg
  |refine' Zx
  |refine' Zl
  |((first
   |refine' ZaS
   |refine' Zu)<;>(try refine' Zc0))
  |refine' Ze
  |((with_reducible show True);exact trivial)
  |refine' Zjh
  |exact sd
  |fail)
 all_goals(try clear nx)
 all_goals(apply_rules (newGoals:= .nonDependentOnly) only[dep];exact())):p:=h
theorem ZbW {p:Prop}(h:p:=by
 repeat' (first
  |refine' Zg
  |refine' Zx
  |refine' Zl
  |((first
   |refine' Zce
   |refine' Zu)<;>(try refine' Zan))
  |refine' Ze
  |((with_reducible show True);exact trivial)
  |refine' Zet
  |refine' Zeu
  |refine' ZbL
  |exact sd
  |fail)
 all_goals(try clear nx)
 all_goals(apply_rules (newGoals:= .nonDependentOnly) only[dep];exact())):p:=h
theorem Zye {p:Prop}(h:p:=by
 repeat' (first
  |refine' Za3
  |refine' Za4
  |refine' Zg
  |refine' Za5
  |((first
   |refine' Zt7
   |refine' Zt6
   |refine' Zt8
   |refine' Za6
   |refine' Zff)<;>(try refine' ZdO))
  |refine' Ze
  |refine' Za7
  |refine' Z1
  |exact sd
  |fail)
 all_goals(try clear nx)
 all_goals(apply_rules (newGoals:= .nonDependentOnly) only[dep];exact())):p:=h
theorem Zuq.kp:type_of% (@Z2 [0,1,2,6,7,8,9,10,11,12,13]):= @Z2 [0,1,2,6,7,8,9,10,11,12,13]
theorem Zur.sd {p:Prop}(h:p:=by first|exact Zxu):p:=h
theorem ZhJ.kp:type_of% (@Z2 [0,1,4,5]):= @Z2 [0,1,4,5]
theorem ZdR.sd {p:Prop}(h:p:=by first|exact Zxn):p:=h
theorem Zus.kp:type_of% (@Z2 [0,2,3,5,6,7,8]):= @Z2 [0,2,3,5,6,7,8]
theorem ZAD.kp:type_of% (@Z2 [0,1,4]):= @Z2 [0,1,4]
theorem Zoz.kp:type_of% (@Z2 [0,2,3,4,5]):= @Z2 [0,2,3,4,5]
theorem ZAE.kp:type_of% (@Z2 [0,1,4,5,6,7]):= @Z2 [0,1,4,5,6,7]
theorem Zut.sd {p:Prop}(h:p:=by first|exact Zw9):p:=h
theorem ZAF.kp:type_of% (@Z2 [0,2,3,4]):= @Z2 [0,2,3,4]
theorem ZAG.kp:type_of% (@Z2 [0,2,3,4,5,6,7,8]):= @Z2 [0,2,3,4,5,6,7,8]
theorem Zuu.kp:type_of% (@Z2 [0,1,2,3,4,5]):= @Z2 [0,1,2,3,4,5]
theorem ZeA.kp:type_of% (@Z2 [0,2,3]):= @Z2 [0,2,3]
theorem ZoA.cl {p:Prop}(h:p:=by
 first
  |refine AWL.frzG rfl rfl rfl ?_
 all_goals(apply_rules (newGoals:= .nonDependentOnly) only[dep];exact())):p:=h
theorem Zuv.kp:type_of% (@Z2 [0,1,2]):= @Z2 [0,1,2]
theorem Zgn.kp:type_of% (@Z2 [0,1]):= @Z2 [0,1]
theorem Zm.sd {p:Prop}(h:p:=by first|exact Zp9):p:=h
theorem Zjn.kp:type_of% (@Z2 [0,2]):= @Z2 [0,2]
theorem Zuw.kp:type_of% (@Z2 [0,1,2,4,6,7,8,9]):= @Z2 [0,1,2,4,6,7,8,9]
theorem Zux.cl {p:Prop}(h:p:=by
 first
  |refine AWL.frzG rfl rfl rfl ?_
  |refine AWL.cC (f:=130) ZCu rfl rfl rfl rfl rfl rfl (hps) ?_
  |refine AWL.cC (f:=140) ZEM rfl rfl rfl rfl rfl rfl (hjn) ?_
 all_goals(apply_rules (newGoals:= .nonDependentOnly) only[dep];exact())):p:=h
theorem Zlg.kp:type_of% (@Z2 [0]):= @Z2 [0]
theorem Zuy.sd {p:Prop}(h:p:=by first|exact Zxm|exact Zxr|exact Zxt|exact Zxv):p:=h
theorem ZoB.cl {p:Prop}(h:p:=by
 first
  |refine AWL.cMP (f:=74) [] ZzU rfl rfl rfl rfl rfl rfl rfl (hfail) ?_ ?_
 all_goals(apply_rules (newGoals:= .nonDependentOnly) only[dep];exact())):p:=h
theorem ZoC.kp:type_of% (@Z2 [0,1,2,3,4]):= @Z2 [0,1,2,3,4]
theorem Zuz.sd {p:Prop}(h:p:=by first|exact Zxw):p:=h
theorem ZoD.kp:type_of% (@Z2 [0,1,2,6,7,8,9,10,99]):= @Z2 [0,1,2,6,7,8,9,10,99]
theorem ZuA.cl {p:Prop}(h:p:=by
 first
  |refine AWL.frzG rfl rfl rfl ?_
  |(refine AWL.callV (f:=114) rfl rfl rfl rfl ?_ (Yaa rfl) rfl (w0) ?_;(focus kernel_rfl))
  |refine AWL.cC (f:=114) ZmZ rfl rfl rfl rfl rfl rfl (w0) ?_
  |(refine AWL.callV (f:=114) rfl rfl rfl rfl ?_ (Yaa rfl) rfl (w1) ?_;(focus kernel_rfl))
  |refine AWL.cC (f:=114) ZmZ rfl rfl rfl rfl rfl rfl (w1) ?_
  |(refine AWL.callV (f:=114) rfl rfl rfl rfl ?_ (Yaa rfl) rfl (w2) ?_;(focus kernel_rfl))
  |refine AWL.cC (f:=114) ZmZ rfl rfl rfl rfl rfl rfl (w2) ?_
  |(refine AWL.callV (f:=114) rfl rfl rfl rfl ?_ (Yaa rfl) rfl (w3) ?_;(focus kernel_rfl))
  |refine AWL.cC (f:=114) ZmZ rfl rfl rfl rfl rfl rfl (w3) ?_
 all_goals(apply_rules (newGoals:= .nonDependentOnly) only[dep];exact())):p:=h
theorem ZuB.sd {p:Prop}(h:p:=by first|exact Zxi):p:=h
theorem ZuC.kp:type_of% (@Z2 [0,1,5,6,7,8]):= @Z2 [0,1,5,6,7,8]
theorem ZuD.kp:type_of% (@Z2 [0,1,2,4]):= @Z2 [0,1,2,4]
theorem ZuE.cl {p:Prop}(h:p:=by
 first
  |refine AWL.cM (f:=17) [(0,0),(1000,1000)] Zrv rfl rfl rfl rfl rfl rfl rfl (hmust) ?_
  |refine AWL.cM (f:=20) [(0,0),(1000,1000)] ZwD rfl rfl rfl rfl rfl rfl rfl (hb0) ?_
  |refine AWL.cM (f:=21) [(0,0),(1000,1000)] Zp8 rfl rfl rfl rfl rfl rfl rfl (hn0) ?_
  |refine AWL.frzG rfl rfl rfl ?_
 all_goals(apply_rules (newGoals:= .nonDependentOnly) only[dep];exact())):p:=h
theorem ZuF.att {p:Prop}(h:p:=by
 first
  |(first|(refine AT.takeM (L:=(bA 13 0)) (L':=(bA 13 1)) 0 rfl rfl rfl rfl rfl Zbt (by decide +kernel) (by decide +kernel) ?_;(try refine' Zf))|(refine AT.takeM (L:=(bA 13 1)) (L':=(bA 13 3)) 1 rfl rfl rfl rfl rfl Zbt (by decide +kernel) (by decide +kernel) ?_;(try refine' Zf))|(refine AT.takeN (L:=(bA 13 3)) (L':=(bA 13 7)) 2 rfl rfl rfl rfl rfl rfl Zbt (by decide +kernel) (by decide +kernel) ?_;(try refine' Zf))|(refine AT.takeF (L:=(bA 13 7)) (L':=(bA 13 15)) 3 rfl rfl rfl rfl rfl rfl rfl rfl Zbt (by decide +kernel) (by decide +kernel) ?_;(try refine' Zf))|(refine AT.takeM (L:=(bA 13 15)) (L':=(bA 13 47)) 5 rfl rfl rfl rfl rfl Zbt (by decide +kernel) (by decide +kernel) ?_;(try refine' Zf))|(refine AT.takeN (L:=(bA 13 47)) (L':=(bA 13 111)) 6 rfl rfl rfl rfl rfl rfl Zbt (by decide +kernel) (by decide +kernel) ?_;(try refine' Zf))|(refine AT.takeF (L:=(bA 13 111)) (L':=(bA 13 239)) 7 rfl rfl rfl rfl rfl rfl rfl rfl Zbt (by decide +kernel) (by decide +kernel) ?_;(try refine' Zf))|refine AT.step (L:=(bA 13 239)) [4,8] (by decide +kernel) (by decide) (Z8 ⟨_,(bA 13 255),rfl,(by decide +kernel),?_⟩ ⟨_,(bA 13 495),rfl,(by decide +kernel),?_⟩)|refine AT.step (L:=(bA 13 495)) [4] (by decide +kernel) (by decide) (Zr ⟨_,(bA 13 511),rfl,(by decide +kernel),?_⟩)|refine AT.step (L:=(bA 13 511)) [9] (by decide +kernel) (by decide) (Zr ⟨_,(bA 13 1023),rfl,(by decide +kernel),?_⟩)|(refine AT.takeN (L:=(bA 13 1023)) (L':=(bA 13 2047)) 10 rfl rfl rfl rfl rfl rfl Zbt (by decide +kernel) (by decide +kernel) ?_;(try refine' Zf))|(refine AT.takeF (L:=(bA 13 2047)) (L':=(bA 13 4095)) 11 rfl rfl rfl rfl rfl rfl rfl rfl Zbt (by decide +kernel) (by decide +kernel) ?_;(try refine' Zf))|refine AT.step (L:=(bA 13 4095)) [12] (by decide +kernel) (by decide) (Zr ⟨_,(bA 13 8191),rfl,(by decide +kernel),?_⟩)|refine AT.done (L:=(bA 13 8191)) (by decide +kernel) ?_|refine AT.step (L:=(bA 13 255)) [8] (by decide +kernel) (by decide) (Zr ⟨_,(bA 13 511),rfl,(by decide +kernel),?_⟩))
 all_goals(apply_rules (newGoals:= .nonDependentOnly) only[dep];exact())):p:=h
theorem ZeB.kp:type_of% (@Z2 [0,1,2,3,4,10,12,33,34,35]):= @Z2 [0,1,2,3,4,10,12,33,34,35]
theorem ZeC.cl {p:Prop}(h:p:=by
 first
  |refine AWL.cM (f:=17) [(0,0),(1000,1000)] Zrv rfl rfl rfl rfl rfl rfl rfl (hmust) ?_
  |refine AWL.cM (f:=21) [(0,27),(1000,28000)] Zp8 rfl rfl rfl rfl rfl rfl rfl (hnum) ?_
  |refine AWL.cM (f:=36) [(0,0),(1000,1000),(2,27),(3000,28000)] ZGo rfl rfl rfl rfl rfl rfl rfl (hput) ?_
  |refine AWL.frzG rfl rfl rfl ?_
 all_goals(apply_rules (newGoals:= .nonDependentOnly) only[dep];exact())):p:=h
theorem ZoE.kp:type_of% (@Z2 [0,1,2,3,4,5,6,7,9,46,101,102,103]):= @Z2 [0,1,2,3,4,5,6,7,9,46,101,102,103]
theorem ZeD.kp:type_of% (@Z2 [0,1,2,6,7,8]):= @Z2 [0,1,2,6,7,8]
theorem Zfh.cl {p:Prop}(h:p:=by
 first
  |refine AWL.cMP (f:=115) [(0,0)] Zw0 rfl rfl rfl rfl rfl rfl rfl (hcount) ?_ ?_
  |refine AWL.cFP [(0,0)] rfl rfl rfl rfl hcb rfl rfl rfl rfl (hone) ?_ ?_
 all_goals(apply_rules (newGoals:= .nonDependentOnly) only[dep];exact())):p:=h
theorem ZeE.rt {p:Prop}(h:p:=by
 first|(refine AW.frzRet 6 rfl rfl ?_;(try refine' Zf))
 all_goals(apply_rules (newGoals:= .nonDependentOnly) only[dep];exact())):p:=h
theorem Zfi.kp:type_of% (@Z2 [0,1,3]):= @Z2 [0,1,3]
theorem ZuG.sd {p:Prop}(h:p:=by first|exact Zxs):p:=h
theorem ZuH.kp:type_of% (@Z2 [0,2,3,4,6,7,8,9,21,22,23]):= @Z2 [0,2,3,4,6,7,8,9,21,22,23]
end
end Go.Abs
