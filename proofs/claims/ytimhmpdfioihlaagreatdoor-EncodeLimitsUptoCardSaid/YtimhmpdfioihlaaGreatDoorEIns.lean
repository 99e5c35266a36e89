/- instr. -/
import Derived.Test.YtimhmpdfioihlaaGreatDoorDP
import Derived.Test.YtimhmpdfioihlaaGreatDoorGPreV
import Derived.Test.YtimhmpdfioihlaaGreatDoorGV6
import Derived.Test.YtimhmpdfioihlaaGreatDoorGCB
import Derived.Test.YtimhmpdfioihlaaGreatDoorGLook
import Derived.Test.YtimhmpdfioihlaaGreatDoorGWP
set_option linter.unusedSimpArgs false
set_option linter.unusedVariables false
set_option maxHeartbeats 12800000
namespace Go.Proofs.YtimhmpdfioihlaaGreatDoor
set_option maxRecDepth 20000
open Go Go.Abs Nat
section
theorem ZyJ {P:Program}{st:St}{Q:Exit->St->Prop}{c:Code}(b:Bool)(W:List Nat)(h:AW P c Q (st.lendL b W)):AW P c Q st:=fun C a w ⟨S,β,hs⟩=>h C a w ⟨S,β,hs.lendL b W⟩
attribute [local irreducible] AW AWL AC FW CW CWr IntKind.wrap
theorem ZoY (b:List Int)(hb:bytes b)(hlen:b.length<=1000000000)(r:Rd)(hr:ZcB b r)(form:Int)(i:Ins)(hil:i.l=[]) :
 AM Tryz.prog 157 [.ptr 0 0,.ptr 1 0,.int .i64 form] (rdM 0 1002 b r++inM 1 2005 i) [0,1] (fun v m=>v= .tup []/\m=rdM 0 1002 b (Zv b form r i).2++inM 1 2005 (Zv b form r i).1):=by
 by_cases h4:form=4
 ·subst h4;exact Zno b hb hlen r hr i hil
 ·by_cases h11:form=11\/form=12
  ·exact ZlA b hb hlen r hr form h11 i
  ·exact Znn b hb hlen r hr form h4 (fun h=>h11 (.inl h)) (fun h=>h11 (.inr h)) i
def ZFN (k:Nat)(i:Ins):List V:=[.int .i64 i.op,.int .i64 i.a,.int .i64 i.b,.int .u64 i.lo,.int .u64 i.hi,.ref k 0 i.l.length 1]
def ZEq (pn:Nat->Option BI)(b:List Int)(op:Int)(r:Rd):St:={ n:=67,slots:=[(0,.ptr 0 0),(2,.ptr 2 0),(3,.int .i64 op)],mem:=[(0,⟨false,[.view b.length 1 (Zi .u8 b),.int .i64 r.pos,.ref 1002 0 r.op.length 1,.int .i64 r.err]⟩),(1002,⟨true,Zi .i64 (r.op++r.jk)⟩),(2,⟨false,[.int .i64 0,.int .i64 0,.int .i64 0,.int .u64 0,.int .u64 0,.ref 3005 0 0 1]⟩),(3005,⟨true,[]⟩)],lent:=[(0,pn 0),(1002,none)] }
def ZFO (pn:Nat->Option BI)(b:List Int)(op:Int)(r:Rd)(z:Zm5):St:={ n:=67,slots:=[(0,.ptr 0 0),(2,.ptr 2 0),(3,.int .i64 op),(5,.ptr 5 0)],mem:=[(0,⟨false,[.view b.length 1 (Zi .u8 b),.int .i64 r.pos,.ref 1002 0 r.op.length 1,.int .i64 r.err]⟩),(1002,⟨true,Zi .i64 (r.op++r.jk)⟩),(2,⟨false,[.int .i64 0,.int .i64 0,.int .i64 0,.int .u64 0,.int .u64 0,.ref 3005 0 0 1]⟩),(3005,⟨true,[]⟩),(5,⟨false,[.int .i64 z.1,.int .i64 z.2.1,.bool z.2.2.1,.view z.2.2.2.1.length 1 (Zi .i64 z.2.2.2.1),.view z.2.2.2.2.length 1 (Zi .i64 z.2.2.2.2)]⟩)],lent:=[(0,pn 0),(1002,none)] }
def ZDy (pn:Nat->Option BI)(b:List Int)(op:Int)(r:Rd)(i:Ins):St:={ n:=67,slots:=[(0,.ptr 0 0),(2,.ptr 2 0),(3,.int .i64 op),(7,.ptr 7 0)],mem:=[(0,⟨false,[.view b.length 1 (Zi .u8 b),.int .i64 r.pos,.ref 1002 0 r.op.length 1,.int .i64 r.err]⟩),(1002,⟨true,Zi .i64 (r.op++r.jk)⟩),(2,⟨false,[.int .i64 0,.int .i64 0,.int .i64 0,.int .u64 0,.int .u64 0,.ref 3005 0 0 1]⟩),(3005,⟨true,[]⟩),(7,⟨false,[.int .i64 i.op,.int .i64 i.a,.int .i64 i.b,.int .u64 i.lo,.int .u64 i.hi,.ref 8005 0 i.l.length 1]⟩),(8005,⟨true,Zi .i64 i.l⟩)],lent:=[(8005,none),(0,pn 0),(1002,none)] }
theorem ZFP.NM:type_of% @MB.NM/\type_of% @ZEq.eq_1/\type_of% @ZFO.eq_1/\type_of% @ZDy.eq_1/\type_of% @ZhR.eq_1:=
 ⟨MB.NM,@ZEq.eq_1,@ZFO.eq_1,@ZDy.eq_1,@ZhR.eq_1⟩
open ZFP
theorem ZvG.kp:type_of% (@Z2 [0,2,3,4,5,6,7,10]):= @Z2 [0,2,3,4,5,6,7,10]
theorem ZvG.cl {p:Prop}(h:p:=by
 first
  |refine AWL.cM (f:=153) [(0,0),(1002,1002)] Zw3 rfl rfl rfl rfl rfl rfl rfl (hby) ?_
  |refine AWL.cM (f:=154) [(0,0),(1002,1002)] Zw4 rfl rfl rfl rfl rfl rfl rfl (hnm) ?_
  |refine AWL.cM (f:=155) [(0,0),(1002,1002)] ZkS rfl rfl rfl rfl rfl rfl rfl (hf11) ?_
  |refine AWL.cM (f:=155) [(0,0),(1002,1002)] ZkS rfl rfl rfl rfl rfl rfl rfl (hf10) ?_
  |refine AWL.cM (f:=157) [(0,0),(1002,1002),(1,7),(2005,8005)] ZEQ rfl rfl rfl rfl rfl rfl rfl (hfd) ?_
  |refine AWL.cM (f:=158) [(0,0),(1002,1002)] ZER rfl rfl rfl rfl rfl rfl rfl (hbl) ?_
  |refine AWL.frzG rfl rfl rfl ?_
  |refine AWL.cC (f:=156) ZEP rfl rfl rfl rfl rfl rfl (hflo) ?_
  |refine AWL.cC (f:=128) ZjZ rfl rfl rfl rfl rfl rfl (hof) ?_
 all_goals(apply_rules (newGoals:= .nonDependentOnly) only[dep];exact())):p:=h
theorem ZvG.sd {p:Prop}(h:p:=by first|exact Zxb):p:=h
open ZvG in
theorem ZrQ (b:List Int)(hb:bytes b)(hlen:b.length<=1000000000)(r:Rd)(hr:ZcB b r)(hol:r.op.length<=1000000) :
 AM Tryz.prog 143 [.ptr 0 0] (rdM 0 1002 b r) [0] (fun v m=>v= .agg (ZFN 3005 (Zbn b r).1)/\m=rdM 0 1002 b (Zbn b r).2++[(3005,⟨true,Zi .i64 (Zbn b r).1.l⟩)]):=by
 have hby:=Zfn b hb hlen r hr
 have hbop:=ZeI b r
 have hr1:=Zix hr
 have hx:=ZfI hb hr
 have hnm:True:=trivial
 have hf11:True:=trivial
 have hf10:True:=trivial
 have hfd:True:=trivial
 have hbl:True:=trivial
 have hflo:True:=trivial
 have hof:True:=trivial
 obtain⟨A,hA⟩: ∃A,Zbn b r=A:=⟨_,rfl⟩
 rw[hA]
 rw[ZgX]at hA
 unfold opS at hA
 generalize Zal b r=z at hby hbop hr1 hx hA
 obtain⟨c,r1⟩:=z
 simp only at hbop hr1 hx hA
 have hx1:=hx.1
 have hx2:=hx.2
 rw[<- hbop]at hol
 unfold rdM ZFN at *
 refine AM.enter Tryz.func143 rfl (Yaa rfl) (fun pn=> ?_)
 simp only[Tryz.f143]
 have nx:=trivial
 refine' Zx4
 rename_i Qm hQm hPm
 have hrest: ∀(op:Int) (r':Rd),ZcB b r'->r'.op.length<=1000000->0<=op->op<4295032064->ZrD b op r'=A-> ∀s:St,s.keep [0,2,3] [0,1002,2,3005]=ZEq pn b op r'->Qm .normal s:=by
  clear hby hx hA
  intro op r' hr' hol' ho1 ho2 hT s hs
  refine QEq.mp hQm ?_
  simp only[Zbd,Go.Abs.blockQ,↓reduceIte,Nat.reduceEqDiff]
  refine AW.keep [0,2,3] [0,1002,2,3005] ?_
  rw[hs]
  rw[ZeH]at hT
  have hflo:=Zyt op (by omega)
  have hof:=ZjD op
  have hf11:=Za9 b r' 11
  have nx:=trivial
  refine' Zx2
  rename_i Qm2 hQm2 hPm2
  have hrest2: ∀(r':Rd),ZcB b r'->r'.op.length<=1000000->Zqt op (Zd9 b op (ZlX op r'))=A-> ∀s:St,s.keep [0,2,3] [0,1002,2,3005]=ZEq pn b op r'->Qm2 .normal s:=by
   clear hflo hf11
   intro r' hr' hol' hT s hs
   refine QEq.mp hQm2 ?_
   simp only[Zbd,Go.Abs.blockQ,↓reduceIte,Nat.reduceEqDiff]
   refine AW.keep [0,2,3] [0,1002,2,3005] ?_
   rw[hs]
   have hf10:=Za9 b r' 10
   have nx:=trivial
   refine' ZxY
   rename_i Qm3 hQm3 hPm3
   have hrest3: ∀(r':Rd),ZcB b r'->r'.op.length<=1000000->Zqt op (Zd9 b op r')=A-> ∀s:St,s.keep [0,2,3,5] [0,1002,2,3005,5]=ZFO pn b op r' (ofS op).1->Qm3 .normal s:=by
    clear hf10 hof
    intro r' hr' hol' hT s hs
    refine QEq.mp hQm3 ?_
    simp only[Zbd,Go.Abs.blockQ,↓reduceIte,Nat.reduceEqDiff]
    refine AW.keep [0,2,3,5] [0,1002,2,3005,5] ?_
    rw[hs]
    have hfd:=ZoY b hb hlen r' hr' (ofS op).1.1 ⟨op,0,0,0,0,[]⟩ rfl
    have hfo:=Zkv b (ofS op).1.1 r' ⟨op,0,0,0,0,[]⟩
    unfold Zd9 at hT
    generalize (ofS op).1=z at hfd hfo hT
    generalize Zv b z.1 r' ⟨op,0,0,0,0,[]⟩=y at hfd hfo hT
    obtain⟨i1,r5⟩:=y
    unfold rdM inM at hfd
    simp only[List.length_nil]at hfd hfo
    have nx:=trivial
    refine' Zx1
    rename_i Qm4 hQm4 hPm4
    have hrest4: ∀(r':Rd) (i:Ins),r'.op.length<=1000000->Zqt op (i,r')=A-> ∀s:St,s.keep [0,2,3,7] [0,1002,2,3005,7,8005]=ZDy pn b op r' i\/(s.keep [0,2,3,7] [0,1002,2,3005,7,8005]).lendL true [8005]=ZDy pn b op r' i->Qm4 .normal s:=by
     clear hfd hfo hT
     intro r' i hol' hT s hs
     refine QEq.mp hQm4 ?_
     simp only[Zbd,Go.Abs.blockQ,↓reduceIte,Nat.reduceEqDiff]
     refine AW.keep [0,2,3,7] [0,1002,2,3005,7,8005] ?_
     suffices h0:AW _ _ _ (ZDy pn b op r' i)by
      rcases hs with hs|hs
      ·rw[hs];exact h0
      ·exact ZyJ true [8005] (by rw[hs];exact h0)
     unfold Zqt at hT
     obtain⟨io,ia,ib,il,ih,ill⟩:=i
     by_cases hc:r'.err=0/\2<=op/\op<=5
     ·rw[if_pos hc]at hT
      have hbl:=ZrF b r' hol' op
      unfold rdM at hbl
      obtain⟨hc1,hc2,hc3⟩:=hc
      subst hT
      have nx:=aI @Yau.{0} trivial
      refine' ZbV
      all_goals first|exact⟨trivial,trivial⟩|exact⟨rfl,trivial⟩|exact⟨rfl,rfl⟩|exact⟨trivial,rfl⟩|(exfalso;omega)|trace_state
     ·rw[if_neg hc]at hT
      subst hT
      have nx:=aI @Yau.{0} trivial
      refine' ZbV
      all_goals first|exact⟨trivial,trivial⟩|exact⟨rfl,trivial⟩|exact⟨rfl,rfl⟩|exact⟨trivial,rfl⟩|(exfalso;omega)|trace_state
    clear hQm4
    by_cases he:r'.err=0
    ·rw[if_pos he]at hT
     have nx:=trivial
     refine' ZbV
     all_goals first
      |exact hrest4 r5 i1 (by rw[hfo];exact hol') hT _ (.inl rfl)
    ·rw[if_neg he]at hT
     have nx:=trivial
     refine' ZbV
     all_goals first
      |exact hrest4 r' ⟨op,0,0,0,0,[]⟩ hol' hT _ (.inr rfl)
   clear hQm3
   unfold ZlX at hT
   by_cases h2:(ofS op).2=true
   ·rw[if_pos h2]at hT
    have nx:=aI @h2 trivial
    refine' ZbV
    all_goals first
     |exact hrest3 r' hr' hol' hT _ rfl
   ·rw[if_neg h2]at hT
    have h3:(ofS op).2=false:=by simpa using h2
    unfold rdM at hf10
    have nx:=aI @h3 trivial
    refine' ZbV
    all_goals first
     |exact hrest3 _ (Zc9 hr' 10) (by rw[Za1];exact hol') hT _ rfl
  clear hQm2
  unfold ZlW at hT
  by_cases h2:flS op=true
  ·rw[if_pos h2]at hT
   unfold rdM at hf11
   have nx:=aI @h2 trivial
   refine' ZbV
   all_goals first
    |exact hrest2 _ (Zc9 hr' 11) (by rw[Za1];exact hol') hT _ rfl
  ·rw[if_neg h2]at hT
   have h3:flS op=false:=by simpa using h2
   have nx:=aI @h3 trivial
   refine' ZbV
   all_goals first
    |exact hrest2 r' hr' hol' hT _ rfl
 clear hQm
 have hnm:=ZbX b hb hlen r1 hr1
 have hnk:=Zfm hb hr1
 have hno:=ZhO b r1
 generalize Zay b r1=z at hnm hnk hno hA
 obtain⟨n,r2⟩:=z
 simp only at hnk hno hA
 obtain⟨hr2,hn1,hn2⟩:=hnk
 rw[<- hno]at hol
 unfold rdM at hnm
 have ew:IntKind.i64.wrap (64768+n)=64768+n:=Zc _ (by omega) (by omega)
 by_cases h1:c=253
 ·rw[if_pos h1]at hA
  subst h1
  have nx:=aI @ew trivial
  refine' ZbV
  all_goals first
   |exact hrest (64768+n) r2 hr2 hol (by omega) (by omega) hA _ rfl
 ·rw[if_neg h1]at hA
  by_cases h2:c=252
  ·rw[if_pos h2]at hA
   subst h2
   by_cases h7:n<=7
   ·have hf11:=Za9 b r2 11
    have hf10:=Za9 b (Zah r2 11) 10
    rw[if_pos h7]at hA
    unfold rdM at hf11 hf10
    have nx:=trivial
    refine' ZbV
    all_goals first
     |exact hrest 252 _ (Zc9 (Zc9 hr2 11) 10) (by rw[Za1,Za1];exact hol) (by omega) (by omega) hA _ rfl
   ·have hf10:=Za9 b r2 10
    rw[if_neg h7]at hA
    unfold rdM at hf10
    have nx:=trivial
    refine' ZbV
    all_goals first
     |exact hrest 252 _ (Zc9 hr2 10) (by rw[Za1];exact hol) (by omega) (by omega) hA _ rfl
  ·rw[if_neg h2]at hA
   have nx:=trivial
   refine' ZbV
   all_goals first
    |exact hrest c r1 hr1 (by rw[<- hno];exact hol) (by omega) (by omega) hA _ rfl
end
end Go.Proofs.YtimhmpdfioihlaaGreatDoor
