/- The writer: section[plait/api.Code]. -/
import Derived.Test.YtimhmpdfioihlaaGreatDoorDP
import Derived.Test.YtimhmpdfioihlaaGreatDoorGPreV
import Derived.Test.YtimhmpdfioihlaaGreatDoorGV6
import Derived.Test.YtimhmpdfioihlaaGreatDoorGCB
import Derived.Test.YtimhmpdfioihlaaGreatDoorGLook
import Derived.Test.YtimhmpdfioihlaaGreatDoorGENCi
import Derived.Test.YtimhmpdfioihlaaGreatDoorGENSElem
import Derived.Test.YtimhmpdfioihlaaGreatDoorGMMv
import Derived.Test.YtimhmpdfioihlaaGreatDoorGEN6
import Derived.Test.YtimhmpdfioihlaaGreatDoorGMT1
import Derived.Test.YtimhmpdfioihlaaGreatDoorMT6w0
set_option linter.unusedSimpArgs false
set_option linter.unusedVariables false
set_option maxHeartbeats 12800000
namespace Go.Proofs.YtimhmpdfioihlaaGreatDoor
set_option maxRecDepth 20000
open Go Go.Abs Nat
theorem ZGL:Za Tryz.prog 58=true:=by kernel_rfl
attribute [local irreducible] AW AWL AC FW CW CWr IntKind.wrap
section
def Zv7 (pn:Nat->Option BI)(o p:Ow)(id:Int)(f1:FuncId)(l:List Zb8)(k:Nat):St:={ n:=48,slots:=[(0,.ptr 0 0),(1,.int .u8 id),(4,.fn f1 []),(10,.ptr 27 0),(33,.view l.length 2 (l.flatMap ZjH)),(34,.int .i64 (l.length:Int)),(35,.int .i64 (k:Int))],mem:=owM 0 1000 o++owM 27 28000 p,lent:=[(0,pn 0),(1000,none)] }
theorem Zy3.NM:type_of% @NSX/\type_of% @St.keepS.eq_1/\type_of% @TY/\type_of% @ZjT/\type_of% @Zb/\type_of% @owM.eq_1/\type_of% @Zv7.eq_1:=
 ⟨NSX,St.keepS.eq_1,@TY,@ZjT,@Zb,@owM.eq_1,@Zv7.eq_1⟩
open Zy3
open ZeB ZeC Zm in
theorem Zr7 (o:Ow)(id most:Int)(l:List Zb8){f1:FuncId}(hcb:Za Tryz.prog f1=true){f:Zb8->Ow->Ow}{sz:Zb8->Nat}(hsz: ∀x p,(f x p).b.length<=p.b.length+sz x)
 (hone: ∀x p,x∈l->p.b.length+sz x<=1000000000->AM Tryz.prog f1 [.ptr 0 0,.agg (ZjH x)] (owM 0 1000 p) [0] (fun r m=>r= .tup []/\m=owM 0 1000 (f x p)))
 (hl:o.b.length+(Zaa sz l+30)<=1000000000) (hn:l.length<=1000000000) :
 AM Tryz.prog 40 [.ptr 0 0,.int .u8 id,.int .i64 most,.view l.length 2 (l.flatMap ZjH),.fn f1 []] (owM 0 1000 o) [0] (fun r m=>r= .tup []/\m=owM 0 1000 (Zbk f id most l o)):=by
 obtain⟨Y,hY⟩: ∃Y,Zbk f id most l o=Y:=⟨_,rfl⟩
 rw[hY]
 unfold Zbk at hY
 obtain⟨c,hc⟩: ∃c,decide ((l.length:Int)<=most)=c:=⟨_,rfl⟩
 rw[hc]at hY
 have hmust:=Zat o c
 have hlm:(Zy c o).b.length=o.b.length:=rfl
 generalize Zy c o=o1 at hY hmust hlm
 have hnum:True:=trivial
 have hput:True:=trivial
 by_cases h0:l.length=0
 ·rw[if_pos h0]at hY
  subst hY
  have d1:((l.length:Int)==0)=true:=beq_iff_eq.2 (by omega)
  have hone:True:=trivial
  obtain⟨b,bad⟩:=o
  obtain⟨b1,bad1⟩:=o1
  unfold owM at hmust ⊢
  simp only at hmust ⊢
  refine AM.enter Tryz.func40 rfl (Yaa rfl) (fun pn=> ?_)
  simp only[Tryz.f40]
  clear hlm hl
  have nx:=aI @hc (aI @d1 trivial)
  refine' Z0
  all_goals first|exact⟨trivial,trivial⟩|exact⟨rfl,trivial⟩|exact⟨rfl,rfl⟩|exact⟨trivial,rfl⟩|(exfalso;omega)|trace_state
 ·rw[if_neg h0]at hY
  have d1:((l.length:Int)==0)=false:=Yam.2 (by omega)
  have hnum:=Zai ⟨[],o1.bad⟩ [(l.length:Int)] (by simp only[List.length_singleton,List.length_nil];omega)
  have hln:=Zq [(l.length:Int)] ⟨[],o1.bad⟩
  simp only[List.length_singleton,List.length_nil]at hln
  obtain⟨b,bad⟩:=o
  obtain⟨b1,bad1⟩:=o1
  simp only at hY hnum hln hlm
  generalize Z9 [(l.length:Int)] ⟨[],bad1⟩=p0 at hY hnum hln
  have hrl:=Zco hsz l p0
  have hput:=fun p (h:p.b.length<=Zaa sz l+10)=>ZdW ⟨b1,bad1⟩ p id (by simp only;simp only at hl;omega)
  have hY:Zf1 id (ZbA f (l.drop 0) p0) ⟨b1,bad1⟩=Y:=hY
  have hr0:(ZbA f (l.drop 0) p0).b.length<=Zaa sz l+10:=by show(ZbA f l p0).b.length<=_;omega
  have hs0:p0.b.length+Zaa sz (l.drop 0)<=Zaa sz l+10:=by show p0.b.length+Zaa sz l<=_;omega
  unfold owM at hmust hnum hput hone
  unfold owM
  simp only[List.cons_append,List.nil_append]at hmust hput ⊢
  obtain⟨bp,badp⟩:=p0
  simp only at hnum
  refine AM.enter Tryz.func40 rfl (Yaa rfl) (fun pn=> ?_)
  simp only[Tryz.f40]
  have nx:=aI @hc (aI @d1 trivial)
  refine' Z0
  refine AW.loop [0,1,4,10,33,34,35] [0,1000,27,28000] (fun m st=> ∃(k:Nat) (p:Ow),st=Zv7 pn ⟨b1,bad1⟩ p id f1 l k/\k<=l.length/\p.b.length+Zaa sz (l.drop k)<=Zaa sz l+10/\Zf1 id (ZbA f (l.drop k) p) ⟨b1,bad1⟩=Y/\m=l.length-k) ?_ ?_
  ·exact⟨_,0,⟨bp,badp⟩,rfl,Nat.zero_le _,hs0,hY,rfl⟩
  clear hmust hnum hY hs0 hr0 hrl hln
  rintro m st ⟨k,p,rfl,hk,hs,hY,rfl⟩
  have hmust:True:=trivial
  have hnum:True:=trivial
  by_cases hkl:k<l.length
  ·have dk:decide ((k:Int)<(l.length:Int))=true:=Yae (by omega)
   have e7:IntKind.i64.wrap ((k:Int)+1)=((k+1:Nat):Int):=Zc _ (by omega) (by omega)
   have hdr:l.drop k=l.getD k ⟨[],[]⟩::l.drop (k+1):=Zb7 ⟨[],[]⟩ hkl
   rw[hdr,ZbA]at hY
   rw[hdr,Zaa]at hs
   have hmem:=ZcF ⟨[],[]⟩ hkl
   have l1:=Zbr Zhc ⟨[],[]⟩ hkl
   have r1:=Zbs Zhc ⟨[],[]⟩ hkl
   generalize hx:l.getD k ⟨[],[]⟩=n at hY hs l1 hmem
   have hone:=hone n p hmem (by omega)
   have hz:=hsz n p
   have hput:True:=trivial
   generalize f n p=p2 at hY hone hz
   have hs2:p2.b.length+Zaa sz (l.drop (k+1))<=Zaa sz l+10:=by omega
   obtain⟨b4,bad4⟩:=p
   obtain⟨b5,bad5⟩:=p2
   simp only at hone
   clear hs hz hmem
   obtain⟨x1,x2⟩:=n
   simp only[ZjH]at hone l1
   have nx:=aI @dk (aI @l1 (aI @r1 (aI @e7 trivial)))
   refine' Z0
   all_goals first
    |exact⟨l.length-(k+1),by omega,k+1,⟨b5,bad5⟩,rfl,by omega,hs2,hY,rfl⟩
  ·have dk:decide ((k:Int)<(l.length:Int))=false:=Yaf (by omega)
   obtain rfl:k=l.length:=by omega
   rw[Ya7 (Nat.le_refl _),ZbA]at hY
   rw[Ya7 (Nat.le_refl _),Zaa]at hs
   have hput:=hput p (by omega)
   rw[hY]at hput
   have hone:True:=trivial
   obtain⟨b4,bad4⟩:=p
   obtain⟨bY,badY⟩:=Y
   simp only at hput
   clear hs hY hl
   have nx:=aI @dk trivial
   refine' Z0
   all_goals first|exact⟨trivial,trivial⟩|exact⟨rfl,trivial⟩|exact⟨rfl,rfl⟩|exact⟨trivial,rfl⟩|(exfalso;omega)|trace_state
end
section
def Zv8 (pn:Nat->Option BI)(o p:Ow)(id:Int)(f1:FuncId)(l:List ZbS)(k:Nat):St:={ n:=48,slots:=[(0,.ptr 0 0),(1,.int .u8 id),(4,.fn f1 []),(10,.ptr 27 0),(33,.view l.length 2 (l.flatMap Zcp)),(34,.int .i64 (l.length:Int)),(35,.int .i64 (k:Int))],mem:=owM 0 1000 o++owM 27 28000 p,lent:=[(0,pn 0),(1000,none)] }
theorem Zy4.NM:type_of% @NSX/\type_of% @St.keepS.eq_1/\type_of% @TY/\type_of% @ZjT/\type_of% @Zb/\type_of% @owM.eq_1/\type_of% @Zv8.eq_1:=
 ⟨NSX,St.keepS.eq_1,@TY,@ZjT,@Zb,@owM.eq_1,@Zv8.eq_1⟩
open Zy4
open ZeB ZeC Zm in
theorem Zr8 (o:Ow)(id most:Int)(l:List ZbS){f1:FuncId}(hcb:Za Tryz.prog f1=true){f:ZbS->Ow->Ow}{sz:ZbS->Nat}(hsz: ∀x p,(f x p).b.length<=p.b.length+sz x)
 (hone: ∀x p,x∈l->p.b.length+sz x<=1000000000->AM Tryz.prog f1 [.ptr 0 0,.agg (Zcp x)] (owM 0 1000 p) [0] (fun r m=>r= .tup []/\m=owM 0 1000 (f x p)))
 (hl:o.b.length+(Zaa sz l+30)<=1000000000) (hn:l.length<=1000000000) :
 AM Tryz.prog 42 [.ptr 0 0,.int .u8 id,.int .i64 most,.view l.length 2 (l.flatMap Zcp),.fn f1 []] (owM 0 1000 o) [0] (fun r m=>r= .tup []/\m=owM 0 1000 (Zbk f id most l o)):=by
 obtain⟨Y,hY⟩: ∃Y,Zbk f id most l o=Y:=⟨_,rfl⟩
 rw[hY]
 unfold Zbk at hY
 obtain⟨c,hc⟩: ∃c,decide ((l.length:Int)<=most)=c:=⟨_,rfl⟩
 rw[hc]at hY
 have hmust:=Zat o c
 have hlm:(Zy c o).b.length=o.b.length:=rfl
 generalize Zy c o=o1 at hY hmust hlm
 have hnum:True:=trivial
 have hput:True:=trivial
 by_cases h0:l.length=0
 ·rw[if_pos h0]at hY
  subst hY
  have d1:((l.length:Int)==0)=true:=beq_iff_eq.2 (by omega)
  have hone:True:=trivial
  obtain⟨b,bad⟩:=o
  obtain⟨b1,bad1⟩:=o1
  unfold owM at hmust ⊢
  simp only at hmust ⊢
  refine AM.enter Tryz.func42 rfl (Yaa rfl) (fun pn=> ?_)
  simp only[Tryz.f42]
  clear hlm hl
  have nx:=aI @hc (aI @d1 trivial)
  refine' Z0
  all_goals first|exact⟨trivial,trivial⟩|exact⟨rfl,trivial⟩|exact⟨rfl,rfl⟩|exact⟨trivial,rfl⟩|(exfalso;omega)|trace_state
 ·rw[if_neg h0]at hY
  have d1:((l.length:Int)==0)=false:=Yam.2 (by omega)
  have hnum:=Zai ⟨[],o1.bad⟩ [(l.length:Int)] (by simp only[List.length_singleton,List.length_nil];omega)
  have hln:=Zq [(l.length:Int)] ⟨[],o1.bad⟩
  simp only[List.length_singleton,List.length_nil]at hln
  obtain⟨b,bad⟩:=o
  obtain⟨b1,bad1⟩:=o1
  simp only at hY hnum hln hlm
  generalize Z9 [(l.length:Int)] ⟨[],bad1⟩=p0 at hY hnum hln
  have hrl:=Zco hsz l p0
  have hput:=fun p (h:p.b.length<=Zaa sz l+10)=>ZdW ⟨b1,bad1⟩ p id (by simp only;simp only at hl;omega)
  have hY:Zf1 id (ZbA f (l.drop 0) p0) ⟨b1,bad1⟩=Y:=hY
  have hr0:(ZbA f (l.drop 0) p0).b.length<=Zaa sz l+10:=by show(ZbA f l p0).b.length<=_;omega
  have hs0:p0.b.length+Zaa sz (l.drop 0)<=Zaa sz l+10:=by show p0.b.length+Zaa sz l<=_;omega
  unfold owM at hmust hnum hput hone
  unfold owM
  simp only[List.cons_append,List.nil_append]at hmust hput ⊢
  obtain⟨bp,badp⟩:=p0
  simp only at hnum
  refine AM.enter Tryz.func42 rfl (Yaa rfl) (fun pn=> ?_)
  simp only[Tryz.f42]
  have nx:=aI @hc (aI @d1 trivial)
  refine' Z0
  refine AW.loop [0,1,4,10,33,34,35] [0,1000,27,28000] (fun m st=> ∃(k:Nat) (p:Ow),st=Zv8 pn ⟨b1,bad1⟩ p id f1 l k/\k<=l.length/\p.b.length+Zaa sz (l.drop k)<=Zaa sz l+10/\Zf1 id (ZbA f (l.drop k) p) ⟨b1,bad1⟩=Y/\m=l.length-k) ?_ ?_
  ·exact⟨_,0,⟨bp,badp⟩,rfl,Nat.zero_le _,hs0,hY,rfl⟩
  clear hmust hnum hY hs0 hr0 hrl hln
  rintro m st ⟨k,p,rfl,hk,hs,hY,rfl⟩
  have hmust:True:=trivial
  have hnum:True:=trivial
  by_cases hkl:k<l.length
  ·have dk:decide ((k:Int)<(l.length:Int))=true:=Yae (by omega)
   have e7:IntKind.i64.wrap ((k:Int)+1)=((k+1:Nat):Int):=Zc _ (by omega) (by omega)
   have hdr:l.drop k=l.getD k ⟨[],[]⟩::l.drop (k+1):=Zb7 ⟨[],[]⟩ hkl
   rw[hdr,ZbA]at hY
   rw[hdr,Zaa]at hs
   have hmem:=ZcF ⟨[],[]⟩ hkl
   have l1:=Zbr Zfr ⟨[],[]⟩ hkl
   have r1:=Zbs Zfr ⟨[],[]⟩ hkl
   generalize hx:l.getD k ⟨[],[]⟩=n at hY hs l1 hmem
   have hone:=hone n p hmem (by omega)
   have hz:=hsz n p
   have hput:True:=trivial
   generalize f n p=p2 at hY hone hz
   have hs2:p2.b.length+Zaa sz (l.drop (k+1))<=Zaa sz l+10:=by omega
   obtain⟨b4,bad4⟩:=p
   obtain⟨b5,bad5⟩:=p2
   simp only at hone
   clear hs hz hmem
   obtain⟨x1,x2⟩:=n
   simp only[Zcp]at hone l1
   have nx:=aI @dk (aI @l1 (aI @r1 (aI @e7 trivial)))
   refine' Z0
   all_goals first
    |exact⟨l.length-(k+1),by omega,k+1,⟨b5,bad5⟩,rfl,by omega,hs2,hY,rfl⟩
  ·have dk:decide ((k:Int)<(l.length:Int))=false:=Yaf (by omega)
   obtain rfl:k=l.length:=by omega
   rw[Ya7 (Nat.le_refl _),ZbA]at hY
   rw[Ya7 (Nat.le_refl _),Zaa]at hs
   have hput:=hput p (by omega)
   rw[hY]at hput
   have hone:True:=trivial
   obtain⟨b4,bad4⟩:=p
   obtain⟨bY,badY⟩:=Y
   simp only at hput
   clear hs hY hl
   have nx:=aI @dk trivial
   refine' Z0
   all_goals first|exact⟨trivial,trivial⟩|exact⟨rfl,trivial⟩|exact⟨rfl,rfl⟩|exact⟨trivial,rfl⟩|(exfalso;omega)|trace_state
end
section
theorem Zhh (c:List Ins)(h:SmC c):AC Tryz.prog 58 [.view c.length 6 (Zap c),.view c.length 6 (Zap c)] (fun r m=>r= .bool true/\m=[]):=by
 have:=ZA0 c c h.n h.n h.l h.l
 rwa [Yae rfl]at this
def ZF5 (a:Mod)(k:Nat):St:={ n:=120,slots:=[(2,.ptr 2 0),(3,.ptr 3 0),(5,.int .i64 (k:Int))],mem:=[(2,⟨false,Zb9 a⟩),(3,⟨false,Zb9 a⟩)] }
def ZF6 (a:Mod)(k:Nat):St:={ n:=120,slots:=[(2,.ptr 2 0),(3,.ptr 3 0),(6,.int .i64 (k:Int))],mem:=[(2,⟨false,Zb9 a⟩),(3,⟨false,Zb9 a⟩)] }
def ZF7 (a:Mod)(k:Nat):St:={ n:=120,slots:=[(2,.ptr 2 0),(3,.ptr 3 0),(7,.int .i64 (k:Int))],mem:=[(2,⟨false,Zb9 a⟩),(3,⟨false,Zb9 a⟩)] }
theorem ZDT.NM:type_of% @MB.NM/\type_of% @ZF5.eq_1/\type_of% @ZF6.eq_1/\type_of% @ZF7.eq_1/\type_of% @Zb9.eq_1:=
 ⟨MB.NM,@ZF5.eq_1,@ZF6.eq_1,@ZF7.eq_1,@Zb9.eq_1⟩
open ZDT
theorem Zo3.kp:type_of% (@Z2 [0,1,2,3,4,5,6,7]):= @Z2 [0,1,2,3,4,5,6,7]
theorem Zo3.cl {p:Prop}(h:p:=by
 first
  |refine AWL.frzG rfl rfl rfl ?_
  |refine AWL.cC (f:=55) ZEk rfl rfl rfl rfl rfl rfl (ht1) ?_
  |refine AWL.cC (f:=58) ZGL rfl rfl rfl rfl rfl rfl (hc1) ?_
 all_goals(apply_rules (newGoals:= .nonDependentOnly) only[dep];exact())):p:=h
theorem Zo3.sd {p:Prop}(h:p:=by first|exact Zxo):p:=h
open Zo3 in
theorem Zy5 (a:Mod)(ha:SmM a):AC Tryz.prog 59 [.agg (Zb9 a),.agg (Zb9 a)] (fun r m=>r= .bool true/\m=[]):=by
 have ht1:True:=trivial
 have hc1:True:=trivial
 refine AC.enter Tryz.func59 rfl (Yaa rfl) ?_
 simp only[Tryz.f59]
 have nx:=trivial
 refine' ZfG
 refine AW.loop [2,3,5] [2,3] (fun m st=> ∃k:Nat,st=ZF5 a k/\k<=a.elems.length/\m=a.elems.length-k) ?_ ?_
 ·exact⟨_,0,rfl,Nat.zero_le _,rfl⟩
 rintro m st ⟨k,rfl,hk,rfl⟩
 by_cases hkl:k<a.elems.length
 ·have e7:IntKind.i64.wrap ((k:Int)+1)=((k+1:Nat):Int):=Zc _ (by have:=ha.el;omega) (by have:=ha.el;omega)
  have hd1:decide ((k:Int)<(a.elems.length:Int))=true:=Yae (by omega)
  have l1:=Zdv Zfq ⟨[],[]⟩ a.elems k hkl
  have hx:=ha.els _ (ZcF ⟨[],[]⟩ hkl)
  generalize (a.elems.drop (k+1)).flatMap ZcW=R at l1
  generalize a.elems.getD k ⟨[],[]⟩=x at l1 hx
  obtain⟨c,f⟩:=x
  have l1:List.drop (k*2) (a.elems.flatMap ZcW)= .view c.length 6 (Zap c):: .view f.length 1 (Zi .i64 f)::R:=l1
  have hc1:=Zhh c hx.1
  have ht1:=Zed f hx.2
  have nx:=aI @e7 (aI @hd1 (aI @l1 trivial))
  refine' ZfG
  all_goals first
   |exact⟨a.elems.length-(k+1),by omega,k+1,rfl,by omega,rfl⟩
 have hd1:decide ((k:Int)<(a.elems.length:Int))=false:=Yaf (by omega)
 have nx:=aI @hd1 trivial
 refine' ZfG
 clear hd1 hkl hk
 refine AW.loop [2,3,6] [2,3] (fun m st=> ∃k:Nat,st=ZF6 a k/\k<=a.codes.length/\m=a.codes.length-k) ?_ ?_
 ·exact⟨_,0,rfl,Nat.zero_le _,rfl⟩
 rintro m st ⟨k,rfl,hk,rfl⟩
 by_cases hkl:k<a.codes.length
 ·have e7:IntKind.i64.wrap ((k:Int)+1)=((k+1:Nat):Int):=Zc _ (by have:=ha.co;omega) (by have:=ha.co;omega)
  have hd1:decide ((k:Int)<(a.codes.length:Int))=true:=Yae (by omega)
  have l1:=Zdv Zhc ⟨[],[]⟩ a.codes k hkl
  have hx:=ha.cos _ (ZcF ⟨[],[]⟩ hkl)
  generalize (a.codes.drop (k+1)).flatMap ZjH=R at l1
  generalize a.codes.getD k ⟨[],[]⟩=x at l1 hx
  obtain⟨f,c⟩:=x
  have l1:List.drop (k*2) (a.codes.flatMap ZjH)= .view f.length 1 (Zi .i64 f):: .view c.length 6 (Zap c)::R:=l1
  have hc1:=Zhh c hx.2
  have ht1:=Zed f hx.1
  have nx:=aI @e7 (aI @hd1 (aI @l1 trivial))
  refine' ZfG
  all_goals first
   |exact⟨a.codes.length-(k+1),by omega,k+1,rfl,by omega,rfl⟩
 have hd1:decide ((k:Int)<(a.codes.length:Int))=false:=Yaf (by omega)
 have nx:=aI @hd1 trivial
 refine' ZfG
 clear hd1 hkl hk
 refine AW.loop [2,3,7] [2,3] (fun m st=> ∃k:Nat,st=ZF7 a k/\k<=a.datas.length/\m=a.datas.length-k) ?_ ?_
 ·exact⟨_,0,rfl,Nat.zero_le _,rfl⟩
 rintro m st ⟨k,rfl,hk,rfl⟩
 by_cases hkl:k<a.datas.length
 ·have e7:IntKind.i64.wrap ((k:Int)+1)=((k+1:Nat):Int):=Zc _ (by have:=ha.da;omega) (by have:=ha.da;omega)
  have hd1:decide ((k:Int)<(a.datas.length:Int))=true:=Yae (by omega)
  have l1:=Zdv Zfr ⟨[],[]⟩ a.datas k hkl
  have hx:=ha.das _ (ZcF ⟨[],[]⟩ hkl)
  generalize (a.datas.drop (k+1)).flatMap Zcp=R at l1
  generalize a.datas.getD k ⟨[],[]⟩=x at l1 hx
  obtain⟨c,f⟩:=x
  have l1:List.drop (k*2) (a.datas.flatMap Zcp)= .view c.length 6 (Zap c):: .view f.length 1 (Zi .u8 f)::R:=l1
  have hc1:=Zhh c hx.1
  have hby:=hx.2
  have nx:=aI @e7 (aI @hd1 (aI @l1 (aI @Ya4.{0} (aI @Bool.not_true trivial))))
  refine' Zye
  all_goals first
   |exact⟨a.datas.length-(k+1),by omega,k+1,rfl,by omega,rfl⟩
 have hd1:decide ((k:Int)<(a.datas.length:Int))=false:=Yaf (by omega)
 have nx:=aI @hd1 trivial
 refine' ZfG
 all_goals first|exact⟨trivial,trivial⟩|exact⟨rfl,trivial⟩|exact⟨rfl,rfl⟩|exact⟨trivial,rfl⟩|(exfalso;omega)|trace_state
end
end Go.Proofs.YtimhmpdfioihlaaGreatDoor
namespace Go.Proofs.YtimhmpdfioihlaaGreatDoor
set_option maxRecDepth 20000
open Go Go.Abs
structure AtB (xs:List Int)(p:Nat)(l:List Int):Prop where
 le:p<=xs.length
 dr: ∃c,xs.drop p=l++c
theorem AtB.app {xs:List Int}{p:Nat}{a b:List Int}(h:AtB xs p (a++b)):AtB xs p a/\AtB xs (p+a.length) b:=by
 obtain⟨hl,c,hc⟩:=h
 have h1:=congrArg List.length hc
 simp only[Yaw,Yal]at h1
 refine⟨⟨hl,b++c,by rw[hc,Ya6]⟩,by omega,c,?_⟩
 rw[<- List.drop_drop,hc,Ya6,List.drop_left]
theorem AtB.len {xs:List Int}{p:Nat}{a:List Int}(h:AtB xs p a):p+a.length<=xs.length:=by
 obtain⟨hl,c,hc⟩:=h
 have h1:=congrArg List.length hc
 simp only[Yaw,Yal]at h1
 omega
theorem AtB.take {xs:List Int}{p t:Nat}{a:List Int}(h:AtB xs p a)(ht:p+a.length<=t):AtB (xs.take t) p a:=by
 have h0:=h.len
 obtain⟨hl,c,hc⟩:=h
 refine⟨by rw[Yar];omega,c.take (t-p-a.length),?_⟩
 rw[List.drop_take,hc,List.take_append,Yad (by omega)]
theorem AtB.get {xs:List Int}{p:Nat}{x:Int}(h:AtB xs p [x]):p<xs.length/\xs.getD p 0=x:=by
 obtain⟨hl,c,hc⟩:=h
 have:=ZcT hc
 exact⟨this.1,this.2.1⟩
def RdB {α:Type}(T:List Int->Int->Res α)(B:List Int)(x:α):Prop:= ∀(xs:List Int) (p:Nat),bytes xs->AtB xs p B->T xs (p:Int)= .ok (x,((p+B.length:Nat):Int))
theorem RdB.bnd {α β:Type}{T1:List Int->Int->Res α}{T2:α->List Int->Int->Res β}{B1 B2:List Int}{a:α}{x:β}(h1:RdB T1 B1 a)(h2:RdB (T2 a) B2 x):RdB (fun xs p=>Go.Proofs.YtimhmpdfioihlaaGreatDoor.bnd (T1 xs p) (fun a t=>T2 a xs t)) (B1++B2) x:=by
 intro xs p hb h
 obtain⟨ha,hc⟩:=h.app
 show Go.Proofs.YtimhmpdfioihlaaGreatDoor.bnd (T1 xs p) _=_
 rw[h1 xs p hb ha,Zk,h2 xs _ hb hc,Yal,Nat.add_assoc]
theorem RdB.ret {α:Type}(x:α):RdB (fun _ t=> .ok (x,t)) [] x:=fun _ _ _ _=>rfl
theorem RdB.must {α:Type}{c:Prop}[Decidable c]{T:List Int->Int->Res α}{B:List Int}{x:α}(hc:c)(h:RdB T B x):RdB (fun xs t=>ZaT c (T xs) t) B x:=by
 intro xs p hb ha
 show ZaT c (T xs) p=_
 unfold ZaT
 rw[if_pos hc,h xs p hb ha]
theorem RdB.cast {α:Type}{T:List Int->Int->Res α}{B B':List Int}{x:α}(h:RdB T B x)(e:B=B'):RdB T B' x:=e▸h
theorem ZdX (x:Int):RdB Zcj [x] x:=by
 intro xs p hb h
 have:=h.get
 unfold Zcj
 rw[if_neg (by omega),Yap,this.2]
 rfl
theorem ZbU {n:Int}(h:Zaf n=true):0<=n/\n<4294967296:=by
 unfold Zaf at h
 simpa using h
theorem Zy6 {b rest:List Int}{p:Nat}{n:Int}(hp:p<=b.length)(hn:0<=n/\n<4294967296)(h:b.drop p=uB n++rest):Zbg b p 32=(n,(p:Int)+((uB n).length:Nat),0):=by
 unfold uB at h ⊢
 rw[Int.emod_eq_of_lt hn.1 (by omega)]at h ⊢
 unfold Zbg
 rw[if_neg (by omega),Yap,h]
 have:=ZuQ 32 rest n.toNat 0 0 p (by decide)
 rw[Nat.mul_zero]at this
 rw[this,if_pos (by show n.toNat<2^32;omega)]
 simp only[Int.pow_zero,Int.mul_one,Int.zero_add,Yai,and_true,true_and]
 omega
theorem ZjI {n:Int}(h:Zaf n=true):RdB nmT (uB n) n:=by
 intro xs p hb ha
 obtain⟨c,hc⟩:=ha.dr
 have:=Zy6 ha.le (ZbU h) hc
 unfold nmT
 rw[this,if_neg (fun h=>h rfl)]
 rfl
theorem ZqZ {n most:Int}(h:Zaf n=true)(hm:n<=most):RdB (fun xs p=>Zh5 xs most p) (uB n) n:=by
 intro xs p hb ha
 show Zh5 xs most p=_
 unfold Zh5
 rw[ZjI h xs p hb ha,Zk,if_neg (by omega)]
theorem Zo4 {xs:List Int}{p:Nat}{P:List Int}(hn:Zaf (P.length:Int)=true)(hb:bytes xs)(h:AtB xs p (uB (P.length:Int)++P)):Zg0 xs p= .ok (((p+(uB (P.length:Int)).length:Nat):Int),((p+(uB (P.length:Int)).length+P.length:Nat):Int)):=by
 have h0:=h.len
 obtain⟨h1,h2⟩:=h.app
 rw[Yal]at h0
 unfold Zg0
 rw[ZjI hn xs p hb h1,Zk]
 unfold ZoN
 rw[if_neg (by omega)]
 rfl
theorem Zq0 {P:List Int}(hn:Zaf (P.length:Int)=true):RdB Zdp (uB (P.length:Int)++P) P:=by
 intro xs p hb h
 have h2:=h.app.2
 unfold Zdp
 rw[Zo4 hn hb h,Zk,Yal,<- Nat.add_assoc]
 obtain⟨c,hc⟩:=h2.dr
 have e:(((p+(uB (P.length:Int)).length+P.length:Nat):Int)-((p+(uB (P.length:Int)).length:Nat):Int)).toNat=P.length:=by omega
 rw[e,Yap,hc,List.take_left]
theorem ZAf (s:List UInt8):toS (sI s)=s:=by
 unfold toS
 rw[<- ZvE,List.map_map]
 conv=>rhs;rw[<- List.map_id s]
 refine List.map_congr_left fun c _=> ?_
 show UInt8.ofNat ((c.toNat:Int)).toNat=c
 rw[Yap]
 exact UInt8.ofNat_toNat
theorem Zo5 {s:List UInt8}(hn:Zaf (s.length:Int)=true)(hv:ZaV (sI s)=true):RdB Ze3 (uB (s.length:Int)++sI s) s:=by
 intro xs p hb h
 unfold Ze3
 have hl:=Zns s
 have:=Zq0 (P:=sI s) (by rw[hl];exact hn)
 rw[hl]at this
 rw[this xs p hb h,Zk,if_pos hv,ZAf]
theorem Zr9 {n:Int}(h:ZbT n=true):(n=127\/n=126\/n=123)/\IntKind.u8.wrap n=n:=by
 unfold ZbT at h
 have h2:n=127\/n=126\/n=123:=by simpa[or_assoc]using h
 refine⟨h2,?_⟩
 rcases h2 with rfl|rfl|rfl<;>rfl
theorem Zo6 {n:Int}(h:ZbT n=true):RdB ZcR [IntKind.u8.wrap n] n:=by
 obtain⟨h1,h2⟩:=Zr9 h
 rw[h2]
 intro xs p hb ha
 unfold ZcR
 rw[ZdX n xs p hb ha,Zk,if_pos h1]
theorem ZAg {α:Type}{T:List Int->Int->Res α}{B:α->List Int}: ∀(l:List α),(∀x∈l,RdB T (B x) x)->RdB (fun xs=>Zda (T xs) l.length) (l.flatMap B) l
 |[],_=>fun _ _ _ _=>rfl
 |x::l,h=>by
  intro xs p hb ha
  rw[List.flatMap_cons]at ha
  obtain⟨h1,h2⟩:=ha.app
  show Zda (T xs) (l.length+1) p=_
  rw[Zda,h x (List.mem_cons_self ..) xs p hb h1,Zk]
  have ih:=ZAg l (fun y hy=>h y (Yaq _ hy)) xs _ hb h2
  simp only at ih
  rw[ih,Zk,List.flatMap_cons,Yal,Nat.add_assoc]
theorem ZlG {α:Type}{T:List Int->Int->Res α}{B:α->List Int}{most:Int}(l:List α)(hm:(l.length:Int)<=most)(hn:Zaf (l.length:Int)=true)(h: ∀x∈l,RdB T (B x) x):RdB (fun xs p=>Z3 xs most (T xs) p) (uB (l.length:Int)++l.flatMap B) l:=by
 intro xs p hb ha
 obtain⟨h1,h2⟩:=ha.app
 show Z3 xs most (T xs) p=_
 unfold Z3
 have h0:=ZqZ hn hm xs p hb h1
 simp only at h0
 rw[h0,Zk,Yap]
 have:=ZAg l h xs _ hb h2
 simp only at this
 rw[this,Yal,Nat.add_assoc]
theorem ZlH {c:List Ins}(hi: ∀i∈c,ZbM i)(h:(Zw c).2=0):RdB Zea (Zw c).1 c:=by
 intro xs p hb ha
 obtain⟨r,hr⟩:=ha.dr
 unfold Zw at h hr ⊢
 by_cases hc:Zaq [] c=true/\ZwH c=true
 ·rw[if_pos hc]at h hr ⊢
  have hp:(xs.take p).length=p:=by rw[Yar];exact Nat.min_eq_left ha.le
  have he:xs=xs.take p++ZeJ c++r:=by rw[Ya6,<- hr,List.take_append_drop]
  have:=Zvn (pre:=xs.take p) (post:=r) (code:=c) (he▸hb) hc.1 (fun i hm=>⟨hi i hm,Yat.1 hc.2 i hm⟩)
  rw[<- he,hp]at this
  unfold Zea
  rw[this,if_neg (fun h=>h rfl)]
  rfl
 ·rw[if_neg hc]at h;exact absurd h (by decide)
structure Ap (f:Ow->Ow)(B:List Int)(K:Bool):Prop where
 b: ∀o,(f o).b=o.b++B
 bad: ∀o,(f o).bad=(o.bad|| !K)
 by_:bytes B
theorem ZnC:bytes []:=fun _ h=>by cases h
theorem ZaF {x:Int}(h:0<=x/\x<=255):bytes [x]:=fun y hy=>by rw[List.mem_singleton]at hy;exact hy▸h
theorem Zv9 (n:Int):0<=IntKind.u8.wrap n/\IntKind.u8.wrap n<=255:=by
 rw[Zj (k:= .u8) rfl]
 show 0<=n%256/\n%256<=255
 omega
theorem Ap.comp {f g:Ow->Ow}{B C:List Int}{K L:Bool}(hf:Ap f B K)(hg:Ap g C L):Ap (fun o=>g (f o)) (B++C) (K&&L):=
 ⟨fun o=>by rw[hg.b,hf.b,Ya6],fun o=>by rw[hg.bad,hf.bad];cases o.bad<;>cases K<;>cases L<;>rfl,Zba hf.by_ hg.by_⟩
theorem ZcG (c:Bool):Ap (Zy c) [] c:=⟨fun o=>(List.append_nil _).symm,fun _=>rfl,ZnC⟩
theorem ZaW {l:List Int}(h:bytes l):Ap (Z6 l) l true:=⟨fun _=>rfl,fun o=>(Bool.or_false _).symm,h⟩
theorem ZeS (n:Int):bytes (uB n):=Zko _
theorem ZAh (n:Int):Ap (ZBl n) (uB n) (Zaf n):=⟨fun _=>rfl,fun _=>rfl,ZeS n⟩
theorem Zsa:Ap (fun o=>o) [] true:=⟨fun o=>(List.append_nil _).symm,fun o=>(Bool.or_false _).symm,ZnC⟩
theorem ZlI: ∀l:List Int,Ap (Z9 l) (l.flatMap uB) (l.all Zaf)
 |[]=>Zsa
 |n::l=>by rw[List.flatMap_cons,List.all_cons];exact(ZAh n).comp (ZlI l)
theorem ZaX (n:Int):Ap (Z9 [n]) (uB n) (Zaf n):=ZAh n
theorem Zo7 (n:Int):Ap (Zj0 n) [IntKind.u8.wrap n] (ZbT n):=⟨fun _=>rfl,fun _=>rfl,ZaF (Zv9 n)⟩
theorem ZiE: ∀l:List Int,Ap (ZbI l) (l.flatMap fun n=>[IntKind.u8.wrap n]) (l.all ZbT)
 |[]=>Zsa
 |n::l=>by rw[List.flatMap_cons,List.all_cons];exact(Zo7 n).comp (ZiE l)
theorem Zgw {c:List Ins}(hi: ∀i∈c,ZbM i):Ap (ZeQ c) (Zw c).1 ((Zw c).2==0):=by
 have:=(ZcG ((Zw c).2==0)).comp (ZaW (ZvA hi))
 rw[List.nil_append,Bool.and_true]at this
 exact this
theorem Zq1 (s:List UInt8):bytes (sI s):=by
 intro x hx
 obtain⟨c,_,rfl⟩:=Ya3.1 hx
 have:=c.toNat_lt
 exact⟨by omega,by omega⟩
theorem ZlJ (s:List UInt8):Ap (Zgu s) (uB (s.length:Int)++sI s) (ZaV (sI s)&&Zaf (s.length:Int)):=by
 have:=((ZcG (ZaV (sI s))).comp (ZaX (s.length:Int))).comp (ZaW (Zq1 s))
 rw[List.nil_append,Bool.and_true]at this
 exact this
theorem Ap.cast {f:Ow->Ow}{B C:List Int}{K L:Bool}(h:Ap f B K)(e:B=C)(e2:K=L):Ap f C L:=e▸e2▸h
def Wr {α:Type}(f:Ow->Ow)(T:List Int->Int->Res α)(x:α):Prop:= ∃B K,Ap f B K/\(K=true->RdB T B x)
theorem ZDU (n:Int):Wr (ZoX n) nmT n:=⟨_,_,ZaX n,fun h=>ZjI h⟩
theorem Zq2 {l:List Int}(h:l.all ZbT=true): ∀x∈l,RdB ZcR [IntKind.u8.wrap x] x:=fun x hx=>Zo6 (Yat.1 h x hx)
theorem ZBA {l:List Int}(h:l.all Zaf=true): ∀x∈l,RdB nmT (uB x) x:=fun x hx=>ZjI (Yat.1 h x hx)
theorem ZDV (x:Zig):Wr (ZqN x) Zqw x:=by
 refine⟨_,_,((((ZcG _).comp (ZaW (ZaF (by omega)))).comp (ZaX _)).comp (ZiE _)).comp (ZaX _) |>.comp (ZiE _),fun hk=> ?_⟩
 simp only[Yao,Yaz,and_true]at hk
 obtain⟨⟨⟨⟨⟨h1,h2⟩,h3⟩,h4⟩,h5⟩,h6⟩:=hk
 refine RdB.cast (B:=[96]++((uB (x.i.length:Int)++x.i.flatMap fun n=>[IntKind.u8.wrap n])++((uB (x.o.length:Int)++x.o.flatMap fun n=>[IntKind.u8.wrap n])++[]))) ?_ (by simp only[Ya6,List.nil_append,List.append_nil])
 unfold Zqw
 refine RdB.bnd (ZdX 96) ?_
 refine RdB.must rfl ?_
 refine RdB.bnd (ZlG x.i h1 h3 (Zq2 h4)) ?_
 refine RdB.bnd (ZlG x.o h2 h5 (Zq2 h6)) ?_
 exact RdB.ret _
theorem ZDW (x:Zjy):Wr (ZqP x) Zqx x:=by
 refine⟨_,_,(((ZlJ _).comp (ZlJ _)).comp (ZaW (ZaF (by omega)))).comp (ZaX _),fun hk=> ?_⟩
 simp only[Yao,and_true]at hk
 obtain⟨⟨⟨h1,h2⟩,h3,h4⟩,h5⟩:=hk
 refine RdB.cast (B:=(uB (x.m.length:Int)++sI x.m)++((uB (x.n.length:Int)++sI x.n)++([0]++(uB x.t++[])))) ?_ (by simp only[Ya6,List.append_nil])
 unfold Zqx
 refine RdB.bnd (Zo5 h2 h1) ?_
 refine RdB.bnd (Zo5 h4 h3) ?_
 refine RdB.bnd (ZdX 0) ?_
 refine RdB.must rfl ?_
 refine RdB.bnd (ZjI h5) ?_
 exact RdB.ret _
theorem ZAi (most:Int)(x:Int×Int):Wr (ZoW most x) (fun xs=>Zjx xs most) x:=by
 obtain⟨n,k⟩:=x
 by_cases h:k= -1
 ·subst h
  refine⟨[0]++uB n,decide (n<=most)&&Zaf n,?_,fun hk=> ?_⟩
  ·have:=((ZcG (decide (n<=most))).comp (ZaW (l:=[0]) (ZaF (by omega)))).comp (ZaX n)
   rw[List.nil_append,Bool.and_true]at this
   exact this
  ·simp only[Yao,Yaz]at hk
   refine RdB.cast (B:=[0]++(uB n++[])) ?_ (by rw[List.append_nil])
   unfold Zjx
   refine RdB.bnd (ZdX 0) ?_
   simp only[show ¬((0:Int)>1)by omega,show ¬((0:Int)=1)by omega,↓reduceIte]
   refine RdB.bnd (ZqZ hk.2 hk.1) ?_
   exact RdB.ret _
 ·refine⟨[1]++uB n++uB k,decide (n<=most)&&(Zaf n&&Zaf k),?_,fun hk=> ?_⟩
  ·have:=((ZcG (decide (n<=most))).comp (ZaW (l:=[1]) (ZaF (by omega)))).comp (ZlI [n,k])
   rw[List.nil_append,Bool.and_true]at this
   refine Ap.cast (f:=ZoW most (n,k)) ?_ (B:=[1]++[n,k].flatMap uB) (by simp) (K:=decide (n<=most)&&[n,k].all Zaf) (by simp)
   have e:ZoW most (n,k)=fun o=>Z9 [n,k] (Z6 [1] (Zy (decide (n<=most)) o)):=by
    funext o
    exact if_neg h
   rw[e]
   exact this
  ·simp only[Yao,Yaz]at hk
   refine RdB.cast (B:=[1]++(uB n++(uB k++[]))) ?_ (by simp)
   unfold Zjx
   refine RdB.bnd (ZdX 1) ?_
   simp only[show ¬((1:Int)>1)by omega,↓reduceIte]
   refine RdB.bnd (ZqZ hk.2.1 hk.1) ?_
   refine RdB.bnd (ZjI hk.2.2) ?_
   exact RdB.ret _
theorem ZDX (x:Int×Int):Wr (ZqW x) ZoO x:=by
 obtain⟨B,K,h1,h2⟩:=ZAi 1024 x
 refine⟨_,_,(ZaW (l:=[112]) (ZaF (by omega))).comp h1,fun hk=> ?_⟩
 rw[Bool.true_and]at hk
 unfold ZoO
 refine RdB.bnd (ZdX 112) ?_
 refine RdB.must rfl ?_
 exact h2 hk
theorem ZDY (x:Int×Int):Wr (Zr1 x) (fun xs=>Zjx xs 16) x:=ZAi 16 x
theorem ZBB (x:ZdV)(hi: ∀i∈x.c,ZbM i):Wr (Zhf x) Zg1 x:=by
 obtain⟨t,mu,c⟩:=x
 refine⟨_,_,((ZiE [t]).comp (ZaW (l:=[if mu=true then 1 else 0]) (ZaF (by cases mu<;>decide)))).comp (Zgw hi),fun hk=> ?_⟩
 simp only[Yao,and_true,beq_iff_eq,List.all_cons,List.all_nil]at hk
 refine RdB.cast (B:=[IntKind.u8.wrap t]++([if mu=true then 1 else 0]++((Zw c).1++[]))) ?_ (by simp)
 unfold Zg1
 have e:((if mu=true then(1:Int)else 0)==1)=mu:=by cases mu<;>rfl
 refine RdB.bnd (Zo6 hk.1) ?_
 refine RdB.bnd (ZdX _) ?_
 refine RdB.must (by cases mu<;>decide) ?_
 refine RdB.bnd (ZlH hi hk.2) ?_
 rw[e]
 exact RdB.ret _
theorem ZDZ (x:Zjz):Wr (ZqL x) Zqy x:=by
 obtain⟨n,k,i⟩:=x
 refine⟨_,_,(((ZcG _).comp (ZlJ _)).comp (ZaW (ZaF (Zv9 k)))).comp (ZaX i),fun hk=> ?_⟩
 simp only[Yao,and_true,Yaz]at hk
 obtain⟨⟨h1,h2,h3⟩,h4⟩:=hk
 have e:IntKind.u8.wrap k=k:=by rw[Zj (k:= .u8) rfl];show k%256=k;omega
 rw[e]
 refine RdB.cast (B:=(uB (n.length:Int)++sI n)++([k]++(uB i++[]))) ?_ (by simp)
 unfold Zqy
 refine RdB.bnd (Zo5 h3 h2) ?_
 refine RdB.bnd (ZdX k) ?_
 refine RdB.must h1.2 ?_
 refine RdB.bnd (ZjI h4) ?_
 exact RdB.ret _
theorem uB0:uB 0=[0]:=by unfold uB;rw[show((0:Int)%18446744073709551616).toNat=0 by decide,ZhK];rfl
theorem ZBC (x:ZcS)(hi: ∀i∈x.c,ZbM i):Wr (Zhe x) Zg2 x:=by
 obtain⟨c,f⟩:=x
 refine⟨_,_,((((ZcG _).comp (ZaW (l:=[0]) (ZaF (by omega)))).comp (Zgw hi)).comp (ZaX _)).comp (ZlI _),fun hk=> ?_⟩
 simp only[Yao,and_true,Yaz,beq_iff_eq]at hk
 obtain⟨⟨⟨h1,h2⟩,h3⟩,h4⟩:=hk
 refine RdB.cast (B:=uB 0++((Zw c).1++((uB (f.length:Int)++f.flatMap uB)++[]))) ?_ (by simp[uB0])
 unfold Zg2
 refine RdB.bnd (ZjI (n:=0) (by decide)) ?_
 refine RdB.must rfl ?_
 refine RdB.bnd (ZlH hi h2) ?_
 refine RdB.bnd (ZlG f h1 h3 (ZBA h4)) ?_
 exact RdB.ret _
theorem ZBD (x:ZbS)(hi: ∀i∈x.c,ZbM i)(hb:bytes x.b):Wr (Zhd x) Zg3 x:=by
 obtain⟨c,b⟩:=x
 refine⟨_,_,(((ZaW (l:=[0]) (ZaF (by omega))).comp (Zgw hi)).comp (ZaX _)).comp (ZaW hb),fun hk=> ?_⟩
 simp only[Yao,and_true,true_and,beq_iff_eq]at hk
 refine RdB.cast (B:=uB 0++((Zw c).1++((uB (b.length:Int)++b)++[]))) ?_ (by simp[uB0])
 unfold Zg3
 refine RdB.bnd (ZjI (n:=0) (by decide)) ?_
 refine RdB.must rfl ?_
 refine RdB.bnd (ZlH hi hk.1) ?_
 refine RdB.bnd (Zq0 hk.2) ?_
 exact RdB.ret _
end Go.Proofs.YtimhmpdfioihlaaGreatDoor
