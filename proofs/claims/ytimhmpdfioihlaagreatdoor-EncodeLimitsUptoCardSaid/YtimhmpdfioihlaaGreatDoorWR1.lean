/- number, rest, closed. -/
import Derived.Test.YtimhmpdfioihlaaGreatDoorDP
import Derived.Test.YtimhmpdfioihlaaGreatDoorGPreV
import Derived.Test.YtimhmpdfioihlaaGreatDoorGV6
import Derived.Test.YtimhmpdfioihlaaGreatDoorGCB
import Derived.Test.YtimhmpdfioihlaaGreatDoorGRefpre
import Derived.Test.YtimhmpdfioihlaaGreatDoorGWP
import Derived.Test.YtimhmpdfioihlaaGreatDoorGMT1
set_option linter.unusedSimpArgs false
set_option linter.unusedVariables false
set_option maxHeartbeats 12800000
namespace Go.Proofs.YtimhmpdfioihlaaGreatDoor
set_option maxRecDepth 20000
open Go Go.Abs Nat
attribute [local irreducible] AW AWL AC FW CW CWr IntKind.wrap
section
def T3w (code:List Ins)(o j:List Int)(k:Nat):St:={ n:=59,slots:=[(0,.view code.length 6 (Zap code)),(3,.ref 3 0 o.length 1),(7,.view code.length 6 (Zap code)),(8,.int .i64 code.length),(9,.int .i64 (k:Int))],mem:=[(3,⟨true,Zi .i64 (o++j)⟩)] }
theorem ZHF.NM:type_of% @MB.NM/\type_of% @T3w.eq_1:=
 ⟨MB.NM,@T3w.eq_1⟩
open ZHF
theorem ZFz.kp:type_of% (@Z2 [0,1,2,4,5,6,7,8,25]):= @Z2 [0,1,2,4,5,6,7,8,25]
theorem ZFA.kp:type_of% (@Z2 [0,2,3,4,5,6,7,8,9,17]):= @Z2 [0,2,3,4,5,6,7,8,9,17]
open Zjn Zm in
theorem ZeM (n:Int):AC Tryz.prog 131 [.int .i64 n] (fun v m=>v= .bool (Zcu n)/\m=[]):=by
 refine AC.enter Tryz.func131 rfl (Yaa rfl) ?_
 simp only[Tryz.f131]
 have nx:=trivial
 refine' Zit
 all_goals first
  |exact⟨by rw[Zcu,Yaf (by omega)],trivial⟩
  |exact⟨by rw[Zcu];congr 1;exact decide_eq_decide.2 ⟨fun h=>⟨by omega,by omega⟩,fun h=>by omega⟩,trivial⟩
theorem ZFB {a b lo hi:Int}(h: ¬(a=0/\b=0/\lo=0/\hi=0)):V.bool false=V.bool (zq4 a b lo hi):=by rw[zq4,Yaf h]
theorem ZFC {a b lo hi:Int}(h:a=0/\b=0/\lo=0/\hi=0):V.bool true=V.bool (zq4 a b lo hi):=by rw[zq4,Yae h]
theorem ZFD {a b lo hi:Int}{p:Prop}[Decidable p](h:p↔(a=0/\b=0/\lo=0/\hi=0)):V.bool (decide p)=V.bool (zq4 a b lo hi):=by rw[zq4];congr 1;exact decide_eq_decide.2 h
open ZFz ZdR in
theorem Zlo (i:Ins)(form:Int)(hl:i.l.length<=100000000):AC Tryz.prog 129 [.agg (ZgV i),.int .i64 form] (fun v m=>v= .bool (ZdT i form)/\m=[]):=by
 obtain⟨io,ia,ib,il,ih,ill⟩:=i
 obtain⟨A,hA⟩: ∃A,ZdT ⟨io,ia,ib,il,ih,ill⟩ form=A:=⟨_,rfl⟩
 rw[hA]
 unfold ZdT at hA
 simp only at hA hl
 have hb: ∀x:Int,(x==0)=decide (x=0):=fun x=>rfl
 unfold ZgV
 refine AC.enter Tryz.func129 rfl (Yaa rfl) ?_
 simp only[Tryz.f129]
 by_cases h0:form≠4/\ill.length>0
 case' pos=>rw[if_pos h0]at hA
 case' neg=>
  rw[if_neg h0]at hA
  have hcs:form=2\/form=3\/form=5\/form=4\/form=13\/form=6\/form=7\/form=8\/form=9\/form=10\/form=11\/form=12\/(form≠2/\form≠3/\form≠5/\form≠4/\form≠13/\form≠6/\form≠7/\form≠8/\form≠9/\form≠10/\form≠11/\form≠12):=by omega
  rcases hcs with h|h|h|h|h|h|h|h|h|h|h|h|h
  all_goals simp only[h,Int.reduceEq,or_true,true_or,or_false,or_self,false_or,↓reduceIte]at hA
 all_goals
  subst hA
  have nx:=aI @hb trivial
  refine' ZxV
  all_goals first
   |exact⟨rfl,trivial⟩
   |exact⟨ZFB (by omega),trivial⟩
   |exact⟨ZFC (by omega),trivial⟩
   |exact⟨ZFD (by omega),trivial⟩
   |(exfalso;omega)
open ZFA Zm in
theorem Zve (code:List Ins)(hl:code.length<=100000000):AC Tryz.prog 106 [.view code.length 6 (Zap code)] (fun v m=>v= .bool (Zaq [] code)/\m=[]):=by
 obtain⟨A,hA⟩: ∃A,Zaq [] code=A:=⟨_,rfl⟩
 rw[hA]
 refine AC.enter Tryz.func106 rfl (Yaa rfl) ?_
 simp only[Tryz.f106]
 have nx:=trivial
 refine' Zit
 refine AW.loop [0,3,7,8,9] [3] (fun m st=> ∃(k:Nat) (o j:List Int),st=T3w code o j k/\k<=code.length/\o.length<=128/\Zaq o (code.drop k)=A/\m=code.length-k) ?_ ?_
 ·exact⟨_,0,[],[],rfl,Nat.zero_le _,Nat.zero_le _,hA,rfl⟩
 rintro m st ⟨k,o,j,rfl,hk,hol,hc,rfl⟩
 by_cases hkl:k<code.length
 ·have e7:IntKind.i64.wrap ((k:Int)+1)=((k+1:Nat):Int):=Zc _ (by omega) (by omega)
  have e8:IntKind.i64.wrap ((code.length:Int)-1)=(code.length:Int)-1:=Zc _ (by omega) (by omega)
  have hd1:decide ((k:Int)<(code.length:Int))=true:=Yae (by omega)
  have l1:=ZfJ code hkl
  have r1:=ZfK code hkl
  have hdr:code.drop k=code.getD k Zgt::code.drop (k+1):=by
   rw[List.drop_eq_getElem_cons hkl,Yah,Yab hkl];rfl
  have hdl:(code.drop (k+1)).length=code.length-(k+1):=Yaw
  rw[hdr]at hc
  have hc:=Zh4 hc
  rw[hdl]at hc
  generalize code.getD k Zgt=i at l1 hc
  obtain⟨op,ia,ib,il,ih,ill⟩:=i
  unfold ZgV at l1
  simp only at hc l1
  have f3:o.length≠0->IntKind.i64.wrap ((o.length:Int)-1)=((o.length-1:Nat):Int):=fun h0=>by rw[Zc _ (by omega) (by omega)];omega
  have f4:o.length≠0->(Zi .i64 (o++j)).getD (o.length-1) .any= .int .i64 (o.getD (o.length-1) 0):=fun h0=>by
   have h3:(o++j).getD (o.length-1) 0=o.getD (o.length-1) 0:=by simp only[Yah];rw[Ya1 (by omega)]
   rw[<- h3];exact Zys (by rw[Yal];omega)
  have f5:o.length≠0->ZnO (o++j) (o.length-1) 5=o.take (o.length-1)++[5]++j:=fun h0=>by
   unfold ZnO
   rw[List.take_append_of_le_length (by omega),List.drop_append,Ya7 (by omega),List.nil_append,show o.length-1+1-o.length=0 by omega];rfl
  have f6:(o++[op]).length=o.length+1:=by simp
  have f7:o.length≠0->(o.take (o.length-1)++[(5:Int)]).length=o.length:=fun h0=>by rw[Yal,Yar];simp only[Yag,List.length_nil];omega
  have f8:(o.take (o.length-1)).length=o.length-1:=by rw[Yar];omega
  rcases hc with⟨h2,h128,rfl⟩|⟨h2,h128,hL⟩|⟨h2,h0,rfl⟩|⟨h2,⟨h0,h4⟩,rfl⟩|⟨h2,⟨h0,h4⟩,hL⟩|⟨h2,h0,rfl⟩|⟨h2,h0,hL⟩|⟨h2,hL⟩
  all_goals
   have nx:=aI @List.take_left.{0} (aI @Yau.{0} (aI @e7 (aI @e8 (aI @hd1 (aI @l1 (aI @f3 (aI @f4 (aI @f5 trivial))))))))
   refine' Zit
   all_goals first
    |exact⟨rfl,trivial⟩
    |exact⟨by congr 1;exact decide_eq_decide.2 (by omega),trivial⟩
    |exact⟨code.length-(k+1),by omega,k+1,o++[op],[],by rw[T3w,f6,List.append_nil];rfl,by omega,by omega,hL,rfl⟩
    |exact⟨code.length-(k+1),by omega,k+1,o.take (o.length-1)++[5],j,by rw[T3w,f7 h0];rfl,by omega,by rw[f7 h0];omega,hL,rfl⟩
    |exact⟨code.length-(k+1),by omega,k+1,o.take (o.length-1),o.drop (o.length-1)++j,by rw[T3w,f8,<- Ya6,List.take_append_drop];rfl,by omega,by omega,hL,rfl⟩
    |exact⟨code.length-(k+1),by omega,k+1,o,j,rfl,by omega,hol,hL,rfl⟩
 ·have hd1:decide ((k:Int)<(code.length:Int))=false:=Yaf (by omega)
  rw[Ya7 (by omega),Zaq]at hc
  subst hc
  have nx:=aI @hd1 trivial
  refine' Zit
  all_goals first|exact⟨trivial,trivial⟩|exact⟨rfl,trivial⟩|exact⟨rfl,rfl⟩|exact⟨trivial,rfl⟩|(exfalso;omega)|trace_state
end
end Go.Proofs.YtimhmpdfioihlaaGreatDoor
