/- row[plait/api.Limits]. -/
import Derived.Test.YtimhmpdfioihlaaGreatDoorDP
import Derived.Test.YtimhmpdfioihlaaGreatDoorGPreV
import Derived.Test.YtimhmpdfioihlaaGreatDoorGCB
import Derived.Test.YtimhmpdfioihlaaGreatDoorGRowInt
import Derived.Test.YtimhmpdfioihlaaGreatDoorGAMD
import Derived.Test.YtimhmpdfioihlaaGreatDoorGV6
import Derived.Test.YtimhmpdfioihlaaGreatDoorGLook
import Derived.Test.YtimhmpdfioihlaaGreatDoorGPU
import Derived.Test.YtimhmpdfioihlaaGreatDoorGEN6
set_option linter.unusedSimpArgs false
set_option linter.unusedVariables false
set_option maxHeartbeats 12800000
namespace Go.Proofs.YtimhmpdfioihlaaGreatDoor
set_option maxRecDepth 20000
open Go Go.Abs Nat
attribute [local irreducible] AW AWL AC FW CW CWr IntKind.wrap
section
theorem ZFU (h:77<Tryz.prog.types.size):(Tryz.prog.types[77]'h).bytes=16:=by kernel_rfl
def Zgv:(Int×Int)->List V
 |⟨xa,xb⟩=>[.int .i64 xa,.int .i64 xb]
theorem ZfO (x:(Int×Int)):(Zgv x).length=2:=rfl
def ZEu (pn:Nat->Option BI)(f1:FuncId)(b:List Int)(en:Nat)(t:Int)(l:List (Int×Int))(n:Nat):St:={ n:=22,slots:=[(0,.ptr 0 0),(2,.fn f1 [.ptr 3 0]),(7,.ref 7 0 l.length 2),(8,.int .i64 (n:Int))],mem:=[(0,⟨false,[.view b.length 1 (Zi .u8 b),.int .i64 t,.int .i64 en]⟩),(3,⟨false,[.ptr 0 0]⟩),(7,⟨true,l.flatMap Zgv⟩)],lent:=[(0,pn 0),(3,pn 3)] }
theorem ZBt.NM:type_of% @MB.NM/\type_of% @ZEu.eq_1:=
 ⟨MB.NM,@ZEu.eq_1⟩
open ZBt
theorem ZqK.cl {p:Prop}(h:p:=by
 first
  |refine AWL.cMP (f:=115) [(0,0)] Zw0 rfl rfl rfl rfl rfl rfl rfl (hcount) ?_ ?_
  |refine AWL.cFP [(0,0),(3,3)] rfl rfl rfl rfl hcb rfl rfl rfl rfl (hone) ?_ ?_
 all_goals(apply_rules (newGoals:= .nonDependentOnly) only[dep];exact())):p:=h
theorem ZqK.sd {p:Prop}(h:p:=by first|exact Zxf):p:=h
open ZqK ZeD ZeE in
theorem Znu {b:List Int}{p:Int}{en:Nat}(h:okT b p en)(most:Int)(hm:most<=100000){f1:FuncId}(hcb:Za Tryz.prog f1=true){one:Int->Res (Int×Int)}
 (hone: ∀t,okT b t en->AMP Tryz.prog f1 [.ptr 3 0] (tpM 0 b t en++[(3,⟨false,[.ptr 0 0]⟩)]) [0,3] (ZlY (one t) (fun x=> .agg (Zgv x)) b en) (ZlZ (one t) b en))
 (hmv: ∀t a q,okT b t en->one t= .ok (a,q)->okT b q en) :
 AMP Tryz.prog 83 [.ptr 0 0,.int .i64 most,.fn f1 [.ptr 3 0]] (tpM 0 b p en++[(3,⟨false,[.ptr 0 0]⟩)]) [0,3] (ZlY (Z3 (b.take en) most one p) (fun l=> .view l.length 2 (l.flatMap Zgv)) b en) (ZlZ (Z3 (b.take en) most one p) b en):=by
 have hcount:=Zby h most
 have hcm:=fun n q=>ZcE h (most:=most) (n:=n) (t:=q)
 obtain⟨A,hA⟩: ∃A,Z3 (b.take en) most one p=A:=⟨_,rfl⟩
 rw[hA]
 unfold Z3 at hA
 unfold TF OKR ERR tpM at hcount
 unfold ZlY ZlZ tpM at hone
 unfold ZlY ZlZ tpM
 rcases hz:Zh5 (b.take en) most p with⟨e,q⟩|⟨n,q⟩
 all_goals
  rw[hz]at hA hcount hcm
  simp only[Zk,Zn]at hA hcount
  refine AMP.enter Tryz.func83 rfl (Yaa rfl) (fun pn=> ?_)
  simp only[Tryz.f83]
 ·subst hA
  have nx:=trivial
  refine' ZgU
  all_goals first|exact⟨trivial,trivial⟩|exact⟨rfl,trivial⟩|exact⟨rfl,rfl⟩|exact⟨trivial,rfl⟩|(exfalso;omega)|trace_state
 obtain⟨h2,h3,h4⟩:=hcm _ _ rfl
 obtain⟨n0,rfl⟩: ∃n0:Nat,n=n0:=⟨n.toNat,by omega⟩
 have hA:bnd (Zda one n0 q) (fun r t=> .ok ([]++r,t))=A:=by rw[<- hA,Yap];exact ZeK _
 have hn0:n0<=100000:=by omega
 clear hcm hz h4
 have nx:=trivial
 refine' ZgU
 refine AW.loop [0,2,7,8] [0,3,7] (fun m st=> ∃(n:Nat) (t:Int) (l:List (Int×Int)),st=ZEu pn f1 b en t l n/\okT b t en/\l.length+n=n0/\bnd (Zda one n t) (fun r t=> .ok (l++r,t))=A/\n=m) ?_ ?_
 ·exact⟨_,n0,q,[],rfl,h2,by simp,hA,rfl⟩
 rintro m st ⟨n,t,l,rfl,ht,hln,hA,rfl⟩
 clear hcount
 rcases n with _|n
 ·rw[Zda]at hA
  simp only[Zk,List.append_nil]at hA
  subst hA
  have hcut:List.take (l.length*2) (l.flatMap Zgv)=l.flatMap Zgv:=Yad (by rw[ZaQ ZfO];omega)
  have nx:=aI @hcut trivial
  refine' ZgU
  all_goals first|exact⟨trivial,trivial⟩|exact⟨rfl,trivial⟩|exact⟨rfl,rfl⟩|exact⟨trivial,rfl⟩|(exfalso;omega)|trace_state
 ·have hone:=hone t ht
  have hmv:=hmv t
  have e1:IntKind.i64.wrap (((n+1:Nat):Int)-1)=(n:Int):=by rw[Zc _ (by omega) (by omega)];omega
  have d1:decide (((n+1:Nat):Int)>0)=true:=Yae (by omega)
  have hcut:List.take (l.length*2) (l.flatMap Zgv)=l.flatMap Zgv:=Yad (by rw[ZaQ ZfO];omega)
  rw[Zda]at hA
  rcases hz1:one t with⟨e,q⟩|⟨x,q⟩
  all_goals
   rw[hz1]at hA hone
   simp only[Zk,Zn]at hA hone
  ·subst hA
   have nx:=aI @e1 (aI @d1 (aI @hcut trivial))
   refine' ZgU
   all_goals first|exact⟨trivial,trivial⟩|exact⟨rfl,trivial⟩|exact⟨rfl,rfl⟩|exact⟨trivial,rfl⟩|(exfalso;omega)|trace_state
  ·have ht2:=hmv _ _ ht hz1
   rw[ZeL]at hA
   have hl2:(l++[x]).length=l.length+1:=by simp
   obtain⟨xa,xb⟩:=x
   have hs2:l.flatMap Zgv++[.int .i64 xa,.int .i64 xb]=(l++([⟨xa,xb⟩]:List (Int×Int))).flatMap Zgv:=(Zck (f:=Zgv) l (⟨xa,xb⟩:(Int×Int))).symm
   (try unfold Zgv at hone)
   have nx:=aI @e1 (aI @d1 (aI @hcut trivial))
   refine' ZgU
   all_goals first
    |exact⟨n,by omega,n,q,l++[⟨xa,xb⟩],by rw[ZEu,hl2,<- hs2];rfl,ht2,by rw[hl2];omega,hA,rfl⟩
end
section
theorem ZDE (h:82<Tryz.prog.types.size):(Tryz.prog.types[82]'h).bytes=40:=by kernel_rfl
def Zde:ZdV->List V
 |⟨xt,xm,xc⟩=>[.int .i64 xt,.bool xm,.view xc.length 6 (Zap xc)]
theorem Zfp (x:ZdV):(Zde x).length=3:=rfl
def ZyN (pn:Nat->Option BI)(f1:FuncId)(b:List Int)(en:Nat)(t:Int)(l:List ZdV)(n:Nat):St:={ n:=22,slots:=[(0,.ptr 0 0),(2,.fn f1 [.ptr 0 0]),(7,.ref 7 0 l.length 3),(8,.int .i64 (n:Int))],mem:=[(0,⟨false,[.view b.length 1 (Zi .u8 b),.int .i64 t,.int .i64 en]⟩),(7,⟨true,l.flatMap Zde⟩)],lent:=[(0,pn 0)] }
theorem ZyO.NM:type_of% @MB.NM/\type_of% @ZyN.eq_1:=
 ⟨MB.NM,@ZyN.eq_1⟩
open ZyO
theorem ZvN.sd {p:Prop}(h:p:=by first|exact Zw7):p:=h
open ZvN ZeD Zfh ZeE in
theorem ZrS {b:List Int}{p:Int}{en:Nat}(h:okT b p en)(most:Int)(hm:most<=100000){f1:FuncId}(hcb:Za Tryz.prog f1=true){one:Int->Res ZdV}
 (hone: ∀t,okT b t en->AMP Tryz.prog f1 [.ptr 0 0] (tpM 0 b t en) [0] (OKR (one t) (fun x=> .agg (Zde x)) b en) (ERR (one t) b en))
 (hmv: ∀t a q,okT b t en->one t= .ok (a,q)->okT b q en) :
 AMP Tryz.prog 87 [.ptr 0 0,.int .i64 most,.fn f1 [.ptr 0 0]] (tpM 0 b p en) [0] (OKR (Z3 (b.take en) most one p) (fun l=> .view l.length 3 (l.flatMap Zde)) b en) (ERR (Z3 (b.take en) most one p) b en):=by
 have hcount:=Zby h most
 have hcm:=fun n q=>ZcE h (most:=most) (n:=n) (t:=q)
 obtain⟨A,hA⟩: ∃A,Z3 (b.take en) most one p=A:=⟨_,rfl⟩
 rw[hA]
 unfold Z3 at hA
 unfold TF OKR ERR tpM at hcount
 unfold OKR ERR tpM at hone
 unfold OKR ERR tpM
 rcases hz:Zh5 (b.take en) most p with⟨e,q⟩|⟨n,q⟩
 all_goals
  rw[hz]at hA hcount hcm
  simp only[Zk,Zn]at hA hcount
  refine AMP.enter Tryz.func87 rfl (Yaa rfl) (fun pn=> ?_)
  simp only[Tryz.f87]
 ·subst hA
  have nx:=trivial
  refine' Zp
  all_goals first|exact⟨trivial,trivial⟩|exact⟨rfl,trivial⟩|exact⟨rfl,rfl⟩|exact⟨trivial,rfl⟩|(exfalso;omega)|trace_state
 obtain⟨h2,h3,h4⟩:=hcm _ _ rfl
 obtain⟨n0,rfl⟩: ∃n0:Nat,n=n0:=⟨n.toNat,by omega⟩
 have hA:bnd (Zda one n0 q) (fun r t=> .ok ([]++r,t))=A:=by rw[<- hA,Yap];exact ZeK _
 have hn0:n0<=100000:=by omega
 clear hcm hz h4
 have nx:=trivial
 refine' Zp
 refine AW.loop [0,2,7,8] [0,7] (fun m st=> ∃(n:Nat) (t:Int) (l:List ZdV),st=ZyN pn f1 b en t l n/\okT b t en/\l.length+n=n0/\bnd (Zda one n t) (fun r t=> .ok (l++r,t))=A/\n=m) ?_ ?_
 ·exact⟨_,n0,q,[],rfl,h2,by simp,hA,rfl⟩
 rintro m st ⟨n,t,l,rfl,ht,hln,hA,rfl⟩
 clear hcount
 rcases n with _|n
 ·rw[Zda]at hA
  simp only[Zk,List.append_nil]at hA
  subst hA
  have hcut:List.take (l.length*3) (l.flatMap Zde)=l.flatMap Zde:=Yad (by rw[ZaQ Zfp];omega)
  have nx:=aI @hcut trivial
  refine' Zp
  all_goals first|exact⟨trivial,trivial⟩|exact⟨rfl,trivial⟩|exact⟨rfl,rfl⟩|exact⟨trivial,rfl⟩|(exfalso;omega)|trace_state
 ·have hone:=hone t ht
  have hmv:=hmv t
  have e1:IntKind.i64.wrap (((n+1:Nat):Int)-1)=(n:Int):=by rw[Zc _ (by omega) (by omega)];omega
  have d1:decide (((n+1:Nat):Int)>0)=true:=Yae (by omega)
  have hcut:List.take (l.length*3) (l.flatMap Zde)=l.flatMap Zde:=Yad (by rw[ZaQ Zfp];omega)
  rw[Zda]at hA
  rcases hz1:one t with⟨e,q⟩|⟨x,q⟩
  all_goals
   rw[hz1]at hA hone
   simp only[Zk,Zn]at hA hone
  ·subst hA
   have nx:=aI @e1 (aI @d1 (aI @hcut trivial))
   refine' Zp
   all_goals first|exact⟨trivial,trivial⟩|exact⟨rfl,trivial⟩|exact⟨rfl,rfl⟩|exact⟨trivial,rfl⟩|(exfalso;omega)|trace_state
  ·have ht2:=hmv _ _ ht hz1
   rw[ZeL]at hA
   have hl2:(l++[x]).length=l.length+1:=by simp
   obtain⟨xt,xm,xc⟩:=x
   have hs2:l.flatMap Zde++[.int .i64 xt,.bool xm,.view xc.length 6 (Zap xc)]=(l++([⟨xt,xm,xc⟩]:List ZdV)).flatMap Zde:=(Zck (f:=Zde) l (⟨xt,xm,xc⟩:ZdV)).symm
   (try unfold Zde at hone)
   have nx:=aI @e1 (aI @d1 (aI @hcut trivial))
   refine' Zp
   all_goals first
    |exact⟨n,by omega,n,q,l++[⟨xt,xm,xc⟩],by rw[ZyN,hl2,<- hs2];rfl,ht2,by rw[hl2];omega,hA,rfl⟩
end
section
theorem ZDF (h:55<Tryz.prog.types.size):(Tryz.prog.types[55]'h).bytes=32:=by kernel_rfl
def ZjG:Zjz->List V
 |⟨xn,xk,xi⟩=>[.str xn,.int .i64 xk,.int .i64 xi]
theorem ZfP (x:Zjz):(ZjG x).length=3:=rfl
def ZEv (pn:Nat->Option BI)(f1:FuncId)(b:List Int)(en:Nat)(t:Int)(l:List Zjz)(n:Nat):St:={ n:=22,slots:=[(0,.ptr 0 0),(2,.fn f1 [.ptr 0 0]),(7,.ref 7 0 l.length 3),(8,.int .i64 (n:Int))],mem:=[(0,⟨false,[.view b.length 1 (Zi .u8 b),.int .i64 t,.int .i64 en]⟩),(7,⟨true,l.flatMap ZjG⟩)],lent:=[(0,pn 0)] }
theorem ZBu.NM:type_of% @MB.NM/\type_of% @ZEv.eq_1:=
 ⟨MB.NM,@ZEv.eq_1⟩
open ZBu
theorem ZyP.sd {p:Prop}(h:p:=by first|exact Zxh):p:=h
open ZyP ZeD Zfh ZeE in
theorem ZvO {b:List Int}{p:Int}{en:Nat}(h:okT b p en)(most:Int)(hm:most<=100000){f1:FuncId}(hcb:Za Tryz.prog f1=true){one:Int->Res Zjz}
 (hone: ∀t,okT b t en->AMP Tryz.prog f1 [.ptr 0 0] (tpM 0 b t en) [0] (OKR (one t) (fun x=> .agg (ZjG x)) b en) (ERR (one t) b en))
 (hmv: ∀t a q,okT b t en->one t= .ok (a,q)->okT b q en) :
 AMP Tryz.prog 89 [.ptr 0 0,.int .i64 most,.fn f1 [.ptr 0 0]] (tpM 0 b p en) [0] (OKR (Z3 (b.take en) most one p) (fun l=> .view l.length 3 (l.flatMap ZjG)) b en) (ERR (Z3 (b.take en) most one p) b en):=by
 have hcount:=Zby h most
 have hcm:=fun n q=>ZcE h (most:=most) (n:=n) (t:=q)
 obtain⟨A,hA⟩: ∃A,Z3 (b.take en) most one p=A:=⟨_,rfl⟩
 rw[hA]
 unfold Z3 at hA
 unfold TF OKR ERR tpM at hcount
 unfold OKR ERR tpM at hone
 unfold OKR ERR tpM
 rcases hz:Zh5 (b.take en) most p with⟨e,q⟩|⟨n,q⟩
 all_goals
  rw[hz]at hA hcount hcm
  simp only[Zk,Zn]at hA hcount
  refine AMP.enter Tryz.func89 rfl (Yaa rfl) (fun pn=> ?_)
  simp only[Tryz.f89]
 ·subst hA
  have nx:=trivial
  refine' Zp
  all_goals first|exact⟨trivial,trivial⟩|exact⟨rfl,trivial⟩|exact⟨rfl,rfl⟩|exact⟨trivial,rfl⟩|(exfalso;omega)|trace_state
 obtain⟨h2,h3,h4⟩:=hcm _ _ rfl
 obtain⟨n0,rfl⟩: ∃n0:Nat,n=n0:=⟨n.toNat,by omega⟩
 have hA:bnd (Zda one n0 q) (fun r t=> .ok ([]++r,t))=A:=by rw[<- hA,Yap];exact ZeK _
 have hn0:n0<=100000:=by omega
 clear hcm hz h4
 have nx:=trivial
 refine' Zp
 refine AW.loop [0,2,7,8] [0,7] (fun m st=> ∃(n:Nat) (t:Int) (l:List Zjz),st=ZEv pn f1 b en t l n/\okT b t en/\l.length+n=n0/\bnd (Zda one n t) (fun r t=> .ok (l++r,t))=A/\n=m) ?_ ?_
 ·exact⟨_,n0,q,[],rfl,h2,by simp,hA,rfl⟩
 rintro m st ⟨n,t,l,rfl,ht,hln,hA,rfl⟩
 clear hcount
 rcases n with _|n
 ·rw[Zda]at hA
  simp only[Zk,List.append_nil]at hA
  subst hA
  have hcut:List.take (l.length*3) (l.flatMap ZjG)=l.flatMap ZjG:=Yad (by rw[ZaQ ZfP];omega)
  have nx:=aI @hcut trivial
  refine' Zp
  all_goals first|exact⟨trivial,trivial⟩|exact⟨rfl,trivial⟩|exact⟨rfl,rfl⟩|exact⟨trivial,rfl⟩|(exfalso;omega)|trace_state
 ·have hone:=hone t ht
  have hmv:=hmv t
  have e1:IntKind.i64.wrap (((n+1:Nat):Int)-1)=(n:Int):=by rw[Zc _ (by omega) (by omega)];omega
  have d1:decide (((n+1:Nat):Int)>0)=true:=Yae (by omega)
  have hcut:List.take (l.length*3) (l.flatMap ZjG)=l.flatMap ZjG:=Yad (by rw[ZaQ ZfP];omega)
  rw[Zda]at hA
  rcases hz1:one t with⟨e,q⟩|⟨x,q⟩
  all_goals
   rw[hz1]at hA hone
   simp only[Zk,Zn]at hA hone
  ·subst hA
   have nx:=aI @e1 (aI @d1 (aI @hcut trivial))
   refine' Zp
   all_goals first|exact⟨trivial,trivial⟩|exact⟨rfl,trivial⟩|exact⟨rfl,rfl⟩|exact⟨trivial,rfl⟩|(exfalso;omega)|trace_state
  ·have ht2:=hmv _ _ ht hz1
   rw[ZeL]at hA
   have hl2:(l++[x]).length=l.length+1:=by simp
   obtain⟨xn,xk,xi⟩:=x
   have hs2:l.flatMap ZjG++[.str xn,.int .i64 xk,.int .i64 xi]=(l++([⟨xn,xk,xi⟩]:List Zjz)).flatMap ZjG:=(Zck (f:=ZjG) l (⟨xn,xk,xi⟩:Zjz)).symm
   (try unfold ZjG at hone)
   have nx:=aI @e1 (aI @d1 (aI @hcut trivial))
   refine' Zp
   all_goals first
    |exact⟨n,by omega,n,q,l++[⟨xn,xk,xi⟩],by rw[ZEv,hl2,<- hs2];rfl,ht2,by rw[hl2];omega,hA,rfl⟩
end
section
def ZcW:ZcS->List V
 |⟨xc,xf⟩=>[.view xc.length 6 (Zap xc),.view xf.length 1 (Zi .i64 xf)]
theorem Zfq (x:ZcS):(ZcW x).length=2:=rfl
def ZyQ (pn:Nat->Option BI)(f1:FuncId)(b:List Int)(en:Nat)(t:Int)(l:List ZcS)(n:Nat):St:={ n:=22,slots:=[(0,.ptr 0 0),(2,.fn f1 [.ptr 0 0]),(7,.ref 7 0 l.length 2),(8,.int .i64 (n:Int))],mem:=[(0,⟨false,[.view b.length 1 (Zi .u8 b),.int .i64 t,.int .i64 en]⟩),(7,⟨true,l.flatMap ZcW⟩)],lent:=[(0,pn 0)] }
theorem ZyR.NM:type_of% @MB.NM/\type_of% @ZyQ.eq_1:=
 ⟨MB.NM,@ZyQ.eq_1⟩
open ZyR
open ZeD Zfh ZeE Zm in
theorem ZrT {b:List Int}{p:Int}{en:Nat}(h:okT b p en)(most:Int)(hm:most<=100000){f1:FuncId}(hcb:Za Tryz.prog f1=true){one:Int->Res ZcS}
 (hone: ∀t,okT b t en->AMP Tryz.prog f1 [.ptr 0 0] (tpM 0 b t en) [0] (OKR (one t) (fun x=> .agg (ZcW x)) b en) (ERR (one t) b en))
 (hmv: ∀t a q,okT b t en->one t= .ok (a,q)->okT b q en) :
 AMP Tryz.prog 91 [.ptr 0 0,.int .i64 most,.fn f1 [.ptr 0 0]] (tpM 0 b p en) [0] (OKR (Z3 (b.take en) most one p) (fun l=> .view l.length 2 (l.flatMap ZcW)) b en) (ERR (Z3 (b.take en) most one p) b en):=by
 have hcount:=Zby h most
 have hcm:=fun n q=>ZcE h (most:=most) (n:=n) (t:=q)
 obtain⟨A,hA⟩: ∃A,Z3 (b.take en) most one p=A:=⟨_,rfl⟩
 rw[hA]
 unfold Z3 at hA
 unfold TF OKR ERR tpM at hcount
 unfold OKR ERR tpM at hone
 unfold OKR ERR tpM
 rcases hz:Zh5 (b.take en) most p with⟨e,q⟩|⟨n,q⟩
 all_goals
  rw[hz]at hA hcount hcm
  simp only[Zk,Zn]at hA hcount
  refine AMP.enter Tryz.func91 rfl (Yaa rfl) (fun pn=> ?_)
  simp only[Tryz.f91]
 ·subst hA
  have nx:=trivial
  refine' Zp
  all_goals first|exact⟨trivial,trivial⟩|exact⟨rfl,trivial⟩|exact⟨rfl,rfl⟩|exact⟨trivial,rfl⟩|(exfalso;omega)|trace_state
 obtain⟨h2,h3,h4⟩:=hcm _ _ rfl
 obtain⟨n0,rfl⟩: ∃n0:Nat,n=n0:=⟨n.toNat,by omega⟩
 have hA:bnd (Zda one n0 q) (fun r t=> .ok ([]++r,t))=A:=by rw[<- hA,Yap];exact ZeK _
 have hn0:n0<=100000:=by omega
 clear hcm hz h4
 have nx:=trivial
 refine' Zp
 refine AW.loop [0,2,7,8] [0,7] (fun m st=> ∃(n:Nat) (t:Int) (l:List ZcS),st=ZyQ pn f1 b en t l n/\okT b t en/\l.length+n=n0/\bnd (Zda one n t) (fun r t=> .ok (l++r,t))=A/\n=m) ?_ ?_
 ·exact⟨_,n0,q,[],rfl,h2,by simp,hA,rfl⟩
 rintro m st ⟨n,t,l,rfl,ht,hln,hA,rfl⟩
 clear hcount
 rcases n with _|n
 ·rw[Zda]at hA
  simp only[Zk,List.append_nil]at hA
  subst hA
  have hcut:List.take (l.length*2) (l.flatMap ZcW)=l.flatMap ZcW:=Yad (by rw[ZaQ Zfq];omega)
  have nx:=aI @hcut trivial
  refine' Zp
  all_goals first|exact⟨trivial,trivial⟩|exact⟨rfl,trivial⟩|exact⟨rfl,rfl⟩|exact⟨trivial,rfl⟩|(exfalso;omega)|trace_state
 ·have hone:=hone t ht
  have hmv:=hmv t
  have e1:IntKind.i64.wrap (((n+1:Nat):Int)-1)=(n:Int):=by rw[Zc _ (by omega) (by omega)];omega
  have d1:decide (((n+1:Nat):Int)>0)=true:=Yae (by omega)
  have hcut:List.take (l.length*2) (l.flatMap ZcW)=l.flatMap ZcW:=Yad (by rw[ZaQ Zfq];omega)
  rw[Zda]at hA
  rcases hz1:one t with⟨e,q⟩|⟨x,q⟩
  all_goals
   rw[hz1]at hA hone
   simp only[Zk,Zn]at hA hone
  ·subst hA
   have nx:=aI @e1 (aI @d1 (aI @hcut trivial))
   refine' Zp
   all_goals first|exact⟨trivial,trivial⟩|exact⟨rfl,trivial⟩|exact⟨rfl,rfl⟩|exact⟨trivial,rfl⟩|(exfalso;omega)|trace_state
  ·have ht2:=hmv _ _ ht hz1
   rw[ZeL]at hA
   have hl2:(l++[x]).length=l.length+1:=by simp
   obtain⟨xc,xf⟩:=x
   have hs2:l.flatMap ZcW++[.view xc.length 6 (Zap xc),.view xf.length 1 (Zi .i64 xf)]=(l++([⟨xc,xf⟩]:List ZcS)).flatMap ZcW:=(Zck (f:=ZcW) l (⟨xc,xf⟩:ZcS)).symm
   (try unfold ZcW at hone)
   have nx:=aI @e1 (aI @d1 (aI @hcut trivial))
   refine' Zp
   all_goals first
    |exact⟨n,by omega,n,q,l++[⟨xc,xf⟩],by rw[ZyQ,hl2,<- hs2];rfl,ht2,by rw[hl2];omega,hA,rfl⟩
end
section
def ZjH:Zb8->List V
 |⟨xl,xc⟩=>[.view xl.length 1 (Zi .i64 xl),.view xc.length 6 (Zap xc)]
theorem Zhc (x:Zb8):(ZjH x).length=2:=rfl
def ZEw (pn:Nat->Option BI)(f1:FuncId)(b:List Int)(en:Nat)(t:Int)(l:List Zb8)(n:Nat):St:={ n:=22,slots:=[(0,.ptr 0 0),(2,.fn f1 [.ptr 0 0]),(7,.ref 7 0 l.length 2),(8,.int .i64 (n:Int))],mem:=[(0,⟨false,[.view b.length 1 (Zi .u8 b),.int .i64 t,.int .i64 en]⟩),(7,⟨true,l.flatMap ZjH⟩)],lent:=[(0,pn 0)] }
theorem ZBv.NM:type_of% @MB.NM/\type_of% @ZEw.eq_1:=
 ⟨MB.NM,@ZEw.eq_1⟩
open ZBv
open ZeD Zfh ZeE Zm in
theorem ZvP {b:List Int}{p:Int}{en:Nat}(h:okT b p en)(most:Int)(hm:most<=100000){f1:FuncId}(hcb:Za Tryz.prog f1=true){one:Int->Res Zb8}
 (hone: ∀t,okT b t en->AMP Tryz.prog f1 [.ptr 0 0] (tpM 0 b t en) [0] (OKR (one t) (fun x=> .agg (ZjH x)) b en) (ERR (one t) b en))
 (hmv: ∀t a q,okT b t en->one t= .ok (a,q)->okT b q en) :
 AMP Tryz.prog 93 [.ptr 0 0,.int .i64 most,.fn f1 [.ptr 0 0]] (tpM 0 b p en) [0] (OKR (Z3 (b.take en) most one p) (fun l=> .view l.length 2 (l.flatMap ZjH)) b en) (ERR (Z3 (b.take en) most one p) b en):=by
 have hcount:=Zby h most
 have hcm:=fun n q=>ZcE h (most:=most) (n:=n) (t:=q)
 obtain⟨A,hA⟩: ∃A,Z3 (b.take en) most one p=A:=⟨_,rfl⟩
 rw[hA]
 unfold Z3 at hA
 unfold TF OKR ERR tpM at hcount
 unfold OKR ERR tpM at hone
 unfold OKR ERR tpM
 rcases hz:Zh5 (b.take en) most p with⟨e,q⟩|⟨n,q⟩
 all_goals
  rw[hz]at hA hcount hcm
  simp only[Zk,Zn]at hA hcount
  refine AMP.enter Tryz.func93 rfl (Yaa rfl) (fun pn=> ?_)
  simp only[Tryz.f93]
 ·subst hA
  have nx:=trivial
  refine' Zp
  all_goals first|exact⟨trivial,trivial⟩|exact⟨rfl,trivial⟩|exact⟨rfl,rfl⟩|exact⟨trivial,rfl⟩|(exfalso;omega)|trace_state
 obtain⟨h2,h3,h4⟩:=hcm _ _ rfl
 obtain⟨n0,rfl⟩: ∃n0:Nat,n=n0:=⟨n.toNat,by omega⟩
 have hA:bnd (Zda one n0 q) (fun r t=> .ok ([]++r,t))=A:=by rw[<- hA,Yap];exact ZeK _
 have hn0:n0<=100000:=by omega
 clear hcm hz h4
 have nx:=trivial
 refine' Zp
 refine AW.loop [0,2,7,8] [0,7] (fun m st=> ∃(n:Nat) (t:Int) (l:List Zb8),st=ZEw pn f1 b en t l n/\okT b t en/\l.length+n=n0/\bnd (Zda one n t) (fun r t=> .ok (l++r,t))=A/\n=m) ?_ ?_
 ·exact⟨_,n0,q,[],rfl,h2,by simp,hA,rfl⟩
 rintro m st ⟨n,t,l,rfl,ht,hln,hA,rfl⟩
 clear hcount
 rcases n with _|n
 ·rw[Zda]at hA
  simp only[Zk,List.append_nil]at hA
  subst hA
  have hcut:List.take (l.length*2) (l.flatMap ZjH)=l.flatMap ZjH:=Yad (by rw[ZaQ Zhc];omega)
  have nx:=aI @hcut trivial
  refine' Zp
  all_goals first|exact⟨trivial,trivial⟩|exact⟨rfl,trivial⟩|exact⟨rfl,rfl⟩|exact⟨trivial,rfl⟩|(exfalso;omega)|trace_state
 ·have hone:=hone t ht
  have hmv:=hmv t
  have e1:IntKind.i64.wrap (((n+1:Nat):Int)-1)=(n:Int):=by rw[Zc _ (by omega) (by omega)];omega
  have d1:decide (((n+1:Nat):Int)>0)=true:=Yae (by omega)
  have hcut:List.take (l.length*2) (l.flatMap ZjH)=l.flatMap ZjH:=Yad (by rw[ZaQ Zhc];omega)
  rw[Zda]at hA
  rcases hz1:one t with⟨e,q⟩|⟨x,q⟩
  all_goals
   rw[hz1]at hA hone
   simp only[Zk,Zn]at hA hone
  ·subst hA
   have nx:=aI @e1 (aI @d1 (aI @hcut trivial))
   refine' Zp
   all_goals first|exact⟨trivial,trivial⟩|exact⟨rfl,trivial⟩|exact⟨rfl,rfl⟩|exact⟨trivial,rfl⟩|(exfalso;omega)|trace_state
  ·have ht2:=hmv _ _ ht hz1
   rw[ZeL]at hA
   have hl2:(l++[x]).length=l.length+1:=by simp
   obtain⟨xl,xc⟩:=x
   have hs2:l.flatMap ZjH++[.view xl.length 1 (Zi .i64 xl),.view xc.length 6 (Zap xc)]=(l++([⟨xl,xc⟩]:List Zb8)).flatMap ZjH:=(Zck (f:=ZjH) l (⟨xl,xc⟩:Zb8)).symm
   (try unfold ZjH at hone)
   have nx:=aI @e1 (aI @d1 (aI @hcut trivial))
   refine' Zp
   all_goals first
    |exact⟨n,by omega,n,q,l++[⟨xl,xc⟩],by rw[ZEw,hl2,<- hs2];rfl,ht2,by rw[hl2];omega,hA,rfl⟩
end
section
def Zcp:ZbS->List V
 |⟨xc,xb⟩=>[.view xc.length 6 (Zap xc),.view xb.length 1 (Zi .u8 xb)]
theorem Zfr (x:ZbS):(Zcp x).length=2:=rfl
def ZyS (pn:Nat->Option BI)(f1:FuncId)(b:List Int)(en:Nat)(t:Int)(l:List ZbS)(n:Nat):St:={ n:=22,slots:=[(0,.ptr 0 0),(2,.fn f1 [.ptr 0 0]),(7,.ref 7 0 l.length 2),(8,.int .i64 (n:Int))],mem:=[(0,⟨false,[.view b.length 1 (Zi .u8 b),.int .i64 t,.int .i64 en]⟩),(7,⟨true,l.flatMap Zcp⟩)],lent:=[(0,pn 0)] }
theorem ZyT.NM:type_of% @MB.NM/\type_of% @ZyS.eq_1:=
 ⟨MB.NM,@ZyS.eq_1⟩
open ZyT
open ZeD Zfh ZeE Zm in
theorem ZrU {b:List Int}{p:Int}{en:Nat}(h:okT b p en)(most:Int)(hm:most<=100000){f1:FuncId}(hcb:Za Tryz.prog f1=true){one:Int->Res ZbS}
 (hone: ∀t,okT b t en->AMP Tryz.prog f1 [.ptr 0 0] (tpM 0 b t en) [0] (OKR (one t) (fun x=> .agg (Zcp x)) b en) (ERR (one t) b en))
 (hmv: ∀t a q,okT b t en->one t= .ok (a,q)->okT b q en) :
 AMP Tryz.prog 95 [.ptr 0 0,.int .i64 most,.fn f1 [.ptr 0 0]] (tpM 0 b p en) [0] (OKR (Z3 (b.take en) most one p) (fun l=> .view l.length 2 (l.flatMap Zcp)) b en) (ERR (Z3 (b.take en) most one p) b en):=by
 have hcount:=Zby h most
 have hcm:=fun n q=>ZcE h (most:=most) (n:=n) (t:=q)
 obtain⟨A,hA⟩: ∃A,Z3 (b.take en) most one p=A:=⟨_,rfl⟩
 rw[hA]
 unfold Z3 at hA
 unfold TF OKR ERR tpM at hcount
 unfold OKR ERR tpM at hone
 unfold OKR ERR tpM
 rcases hz:Zh5 (b.take en) most p with⟨e,q⟩|⟨n,q⟩
 all_goals
  rw[hz]at hA hcount hcm
  simp only[Zk,Zn]at hA hcount
  refine AMP.enter Tryz.func95 rfl (Yaa rfl) (fun pn=> ?_)
  simp only[Tryz.f95]
 ·subst hA
  have nx:=trivial
  refine' Zp
  all_goals first|exact⟨trivial,trivial⟩|exact⟨rfl,trivial⟩|exact⟨rfl,rfl⟩|exact⟨trivial,rfl⟩|(exfalso;omega)|trace_state
 obtain⟨h2,h3,h4⟩:=hcm _ _ rfl
 obtain⟨n0,rfl⟩: ∃n0:Nat,n=n0:=⟨n.toNat,by omega⟩
 have hA:bnd (Zda one n0 q) (fun r t=> .ok ([]++r,t))=A:=by rw[<- hA,Yap];exact ZeK _
 have hn0:n0<=100000:=by omega
 clear hcm hz h4
 have nx:=trivial
 refine' Zp
 refine AW.loop [0,2,7,8] [0,7] (fun m st=> ∃(n:Nat) (t:Int) (l:List ZbS),st=ZyS pn f1 b en t l n/\okT b t en/\l.length+n=n0/\bnd (Zda one n t) (fun r t=> .ok (l++r,t))=A/\n=m) ?_ ?_
 ·exact⟨_,n0,q,[],rfl,h2,by simp,hA,rfl⟩
 rintro m st ⟨n,t,l,rfl,ht,hln,hA,rfl⟩
 clear hcount
 rcases n with _|n
 ·rw[Zda]at hA
  simp only[Zk,List.append_nil]at hA
  subst hA
  have hcut:List.take (l.length*2) (l.flatMap Zcp)=l.flatMap Zcp:=Yad (by rw[ZaQ Zfr];omega)
  have nx:=aI @hcut trivial
  refine' Zp
  all_goals first|exact⟨trivial,trivial⟩|exact⟨rfl,trivial⟩|exact⟨rfl,rfl⟩|exact⟨trivial,rfl⟩|(exfalso;omega)|trace_state
 ·have hone:=hone t ht
  have hmv:=hmv t
  have e1:IntKind.i64.wrap (((n+1:Nat):Int)-1)=(n:Int):=by rw[Zc _ (by omega) (by omega)];omega
  have d1:decide (((n+1:Nat):Int)>0)=true:=Yae (by omega)
  have hcut:List.take (l.length*2) (l.flatMap Zcp)=l.flatMap Zcp:=Yad (by rw[ZaQ Zfr];omega)
  rw[Zda]at hA
  rcases hz1:one t with⟨e,q⟩|⟨x,q⟩
  all_goals
   rw[hz1]at hA hone
   simp only[Zk,Zn]at hA hone
  ·subst hA
   have nx:=aI @e1 (aI @d1 (aI @hcut trivial))
   refine' Zp
   all_goals first|exact⟨trivial,trivial⟩|exact⟨rfl,trivial⟩|exact⟨rfl,rfl⟩|exact⟨trivial,rfl⟩|(exfalso;omega)|trace_state
  ·have ht2:=hmv _ _ ht hz1
   rw[ZeL]at hA
   have hl2:(l++[x]).length=l.length+1:=by simp
   obtain⟨xc,xb⟩:=x
   have hs2:l.flatMap Zcp++[.view xc.length 6 (Zap xc),.view xb.length 1 (Zi .u8 xb)]=(l++([⟨xc,xb⟩]:List ZbS)).flatMap Zcp:=(Zck (f:=Zcp) l (⟨xc,xb⟩:ZbS)).symm
   (try unfold Zcp at hone)
   have nx:=aI @e1 (aI @d1 (aI @hcut trivial))
   refine' Zp
   all_goals first
    |exact⟨n,by omega,n,q,l++[⟨xc,xb⟩],by rw[ZyS,hl2,<- hs2];rfl,ht2,by rw[hl2];omega,hA,rfl⟩
end
section
def Zhd (x:ZbS)(o:Ow):Ow:=Z6 x.b (Z9 [(x.b.length:Int)] (ZeQ x.c (Z6 [0] o)))
theorem ZFV.NM:type_of% @MB.NM/\type_of% @owM.eq_1:=
 ⟨MB.NM,@owM.eq_1⟩
open ZFV
theorem ZDG.cl {p:Prop}(h:p:=by
 first
  |refine AWL.cM (f:=20) [(0,0),(1000,1000)] ZwD rfl rfl rfl rfl rfl rfl rfl (h1) ?_
  |refine AWL.cM (f:=39) [(0,0),(1000,1000)] ZEi rfl rfl rfl rfl rfl rfl rfl (h2) ?_
  |refine AWL.cM (f:=21) [(0,0),(1000,1000)] Zp8 rfl rfl rfl rfl rfl rfl rfl (h3) ?_
  |refine AWL.cM (f:=20) [(0,0),(1000,1000)] ZwD rfl rfl rfl rfl rfl rfl rfl (h4) ?_
  |refine AWL.frzG rfl rfl rfl ?_
 all_goals(apply_rules (newGoals:= .nonDependentOnly) only[dep];exact())):p:=h
open ZDG Zfi Zm in
theorem ZrV (o:Ow)(x:ZbS)(hw:Zvy x.c)(hl:o.b.length+((Zw x.c).1.length+x.b.length+60)<=1000000000):AM Tryz.prog 43 [.ptr 0 0,.agg (Zcp x)] (owM 0 1000 o) [0] (fun r m=>r= .tup []/\m=owM 0 1000 (Zhd x o)):=by
 obtain⟨Y,hY⟩: ∃Y,Zhd x o=Y:=⟨_,rfl⟩
 rw[hY]
 unfold Zhd at hY
 have h1:=Zbq o [0] (by(try simp only[List.length_singleton]);omega)
 have l1:=Z7 [0] o
 (try simp only[List.length_singleton,Yag,List.length_nil]at l1)
 generalize Z6 [0] o=o1 at hY h1 l1
 have h2:=Ziz o1 x.c hw (by omega)
 have l2:=ZcV x.c o1
 generalize ZeQ x.c o1=o2 at hY h2 l2
 have h3:=Zai o2 [(x.b.length:Int)] (by(try simp only[List.length_singleton,Yag,List.length_nil]);omega)
 have l3:=Zq [(x.b.length:Int)] o2
 (try simp only[List.length_singleton,Yag,List.length_nil]at l3)
 generalize Z9 [(x.b.length:Int)] o2=o3 at hY h3 l3
 have h4:=Zbq o3 x.b (by(try simp only[List.length_singleton]);omega)
 have l4:=Z7 x.b o3
 (try simp only[List.length_singleton,Yag,List.length_nil]at l4)
 rw[hY]at h4
 obtain⟨b,bad⟩:=o
 obtain⟨b1,bad1⟩:=o1
 obtain⟨b2,bad2⟩:=o2
 obtain⟨b3,bad3⟩:=o3
 obtain⟨bY,badY⟩:=Y
 unfold owM at h1 h2 h3 h4 ⊢
 simp only at h1 h2 h3 h4 ⊢
 obtain⟨xc,xb⟩:=x
 simp only[Zcp]at *
 refine AM.enter Tryz.func43 rfl (Yaa rfl) (fun pn=> ?_)
 simp only[Tryz.f43]
 clear hY hl l1 l2 l3 l4
 have nx:=trivial
 refine' Zcf
 all_goals first|exact⟨trivial,trivial⟩|exact⟨rfl,trivial⟩|exact⟨rfl,rfl⟩|exact⟨trivial,rfl⟩|(exfalso;omega)|trace_state
theorem Znv (x:ZbS)(o:Ow):(Zhd x o).b.length<=o.b.length+((Zw x.c).1.length+x.b.length+60):=by
 unfold Zhd
 have l1:=Z7 [0] o
 (try simp only[List.length_singleton,Yag,List.length_nil]at l1)
 generalize Z6 [0] o=o1 at l1 ⊢
 have l2:=ZcV x.c o1
 generalize ZeQ x.c o1=o2 at l2 ⊢
 have l3:=Zq [(x.b.length:Int)] o2
 (try simp only[List.length_singleton,Yag,List.length_nil]at l3)
 generalize Z9 [(x.b.length:Int)] o2=o3 at l3 ⊢
 have l4:=Z7 x.b o3
 (try simp only[List.length_singleton,Yag,List.length_nil]at l4)
 omega
end
section
def ZqL (x:Zjz)(o:Ow):Ow:=Z9 [x.i] (Z6 [IntKind.u8.wrap x.k] (Zgu x.n (Zy (decide (x.k>=0)&&decide (x.k<=3)) o)))
theorem ZFW.NM:type_of% @MB.NM/\type_of% @owM.eq_1:=
 ⟨MB.NM,@owM.eq_1⟩
open ZFW
theorem ZDH.cl {p:Prop}(h:p:=by
 first
  |refine AWL.cM (f:=17) [(0,0),(1000,1000)] Zrv rfl rfl rfl rfl rfl rfl rfl (h1) ?_
  |refine AWL.cM (f:=25) [(0,0),(1000,1000)] ZEH rfl rfl rfl rfl rfl rfl rfl (h2) ?_
  |refine AWL.cM (f:=20) [(0,0),(1000,1000)] ZwD rfl rfl rfl rfl rfl rfl rfl (h3) ?_
  |refine AWL.cM (f:=21) [(0,0),(1000,1000)] Zp8 rfl rfl rfl rfl rfl rfl rfl (h4) ?_
  |refine AWL.frzG rfl rfl rfl ?_
 all_goals(apply_rules (newGoals:= .nonDependentOnly) only[dep];exact())):p:=h
open ZDH Zfi Zm in
theorem ZvQ (o:Ow)(x:Zjz)(hv_x_n:Zsm x.n)(hl:o.b.length+(x.n.length+100)<=1000000000):AM Tryz.prog 35 [.ptr 0 0,.agg (ZjG x)] (owM 0 1000 o) [0] (fun r m=>r= .tup []/\m=owM 0 1000 (ZqL x o)):=by
 obtain⟨Y,hY⟩: ∃Y,ZqL x o=Y:=⟨_,rfl⟩
 rw[hY]
 unfold ZqL at hY
 have h1:=Zat o (decide (x.k>=0)&&decide (x.k<=3))
 have l1:=ZaE (decide (x.k>=0)&&decide (x.k<=3)) o
 generalize Zy (decide (x.k>=0)&&decide (x.k<=3)) o=o1 at hY h1 l1
 have h2:=ZlB o1 x.n hv_x_n (by omega)
 have l2:=Zec x.n o1
 generalize Zgu x.n o1=o2 at hY h2 l2
 have h3:=Zbq o2 [IntKind.u8.wrap x.k] (by(try simp only[List.length_singleton]);omega)
 have l3:=Z7 [IntKind.u8.wrap x.k] o2
 (try simp only[List.length_singleton,Yag,List.length_nil]at l3)
 generalize Z6 [IntKind.u8.wrap x.k] o2=o3 at hY h3 l3
 have h4:=Zai o3 [x.i] (by(try simp only[List.length_singleton,Yag,List.length_nil]);omega)
 have l4:=Zq [x.i] o3
 (try simp only[List.length_singleton,Yag,List.length_nil]at l4)
 rw[hY]at h4
 obtain⟨b,bad⟩:=o
 obtain⟨b1,bad1⟩:=o1
 obtain⟨b2,bad2⟩:=o2
 obtain⟨b3,bad3⟩:=o3
 obtain⟨bY,badY⟩:=Y
 unfold owM at h1 h2 h3 h4 ⊢
 simp only at h1 h2 h3 h4 ⊢
 obtain⟨xn,xk,xi⟩:=x
 simp only[ZjG]at *
 obtain⟨c,hc⟩: ∃c,decide (xk>=0)=c:=⟨_,rfl⟩
 obtain⟨c2,hc2⟩: ∃c,decide (xk<=3)=c:=⟨_,rfl⟩
 rw[hc,hc2]at h1
 refine AM.enter Tryz.func35 rfl (Yaa rfl) (fun pn=> ?_)
 simp only[Tryz.f35]
 clear hY hl l1 l2 l3 l4
 cases c<;>cases c2
 all_goals
  simp only[Bool.and_self,Bool.and_true,Bool.true_and,Bool.and_false,Bool.false_and]at h1
  have nx:=aI @hc (aI @hc2 trivial)
  refine' Zqg
 all_goals
  skip
 all_goals first|exact⟨trivial,trivial⟩|exact⟨rfl,trivial⟩|exact⟨rfl,rfl⟩|exact⟨trivial,rfl⟩|(exfalso;omega)|trace_state
theorem ZqM (x:Zjz)(o:Ow):(ZqL x o).b.length<=o.b.length+(x.n.length+100):=by
 unfold ZqL
 have l1:=ZaE (decide (x.k>=0)&&decide (x.k<=3)) o
 generalize Zy (decide (x.k>=0)&&decide (x.k<=3)) o=o1 at l1 ⊢
 have l2:=Zec x.n o1
 generalize Zgu x.n o1=o2 at l2 ⊢
 have l3:=Z7 [IntKind.u8.wrap x.k] o2
 (try simp only[List.length_singleton,Yag,List.length_nil]at l3)
 generalize Z6 [IntKind.u8.wrap x.k] o2=o3 at l3 ⊢
 have l4:=Zq [x.i] o3
 (try simp only[List.length_singleton,Yag,List.length_nil]at l4)
 omega
end
end Go.Proofs.YtimhmpdfioihlaaGreatDoor
namespace Go.Proofs.YtimhmpdfioihlaaGreatDoor
set_option maxRecDepth 20000
open Go Go.Abs
theorem Zf7:AMP Tryz.prog 47 [.bool true] [] [] (fun v m=>v= .tup []/\m=[]) (fun _ _=>False):=
 (Zvc true).mono (fun _ _ h=>h.2) (fun _ _ h=>absurd h.1 (by decide))
theorem Zfs:AMP Tryz.prog 47 [.bool false] [] [] (fun _ _=>False) (fun ch m=>ch=Zyz 10/\m=[]):=
 (Zvc false).mono (fun _ _ h=>absurd h.1 (by decide)) (fun _ _ h=>h.2)
theorem ZiD (l:List Int):l.flatMap Zsn=Zi .i64 l:=by
 induction l with
 |nil=>rfl
 |cons x l ih=>rw[List.flatMap_cons,ih];rfl
theorem ZfQ {b:List Int}{p:Int}{en:Nat}(h:okT b p en){l:List UInt8}{t:Int}(he:Ze3 (b.take en) p= .ok (l,t)):okT b t en/\p<t/\ ∃l0,l=toS l0/\bytes l0/\ZaV l0=true/\l0.length<=b.length:=by
 unfold Ze3 at he
 rcases hz:Zdp (b.take en) p with⟨e,q⟩|⟨n,q⟩
 ·rw[hz,Zn]at he;cases he
 ·rw[hz,Zk]at he
  obtain⟨h2,h3,h4,h5⟩:=Zha h hz
  split at he
  ·simp only[Except.ok.injEq,Yai]at he
   obtain⟨rfl,rfl⟩:=he
   rename_i hv
   exact⟨h2,h3,_,rfl,h4,hv,h5⟩
  ·cases he
theorem Zcq {b:List Int}{p:Int}{en:Nat}(h:okT b p en){n t:Int}(he:ZcR (b.take en) p= .ok (n,t)):okT b t en/\p<t/\(n=127\/n=126\/n=123):=by
 unfold ZcR at he
 rcases hz:Zcj (b.take en) p with⟨e,q⟩|⟨m,q⟩
 ·rw[hz,Zn]at he;cases he
 ·rw[hz,Zk]at he
  obtain⟨h2,h3,h4⟩:=Za2 h hz
  split at he
  ·simp only[Except.ok.injEq,Yai]at he
   obtain⟨rfl,rfl⟩:=he
   rename_i hv
   exact⟨h2,by omega,hv⟩
  ·split at he<;>cases he
theorem ZvR {α:Type}{b:List Int}{en:Nat}{one:Int->Res α}(hone: ∀t a q,okT b t en->one t= .ok (a,q)->okT b q en/\t<=q): ∀(n:Nat) (p:Int) (l:List α) (t:Int),okT b p en->Zda one n p= .ok (l,t)->okT b t en/\p<=t/\l.length=n
 |0,p,l,t,h,he=>by
  simp only[Zda,Except.ok.injEq,Yai]at he
  obtain⟨rfl,rfl⟩:=he
  exact⟨h,Int.le_refl _,rfl⟩
 |n+1,p,l,t,h,he=>by
  rw[Zda]at he
  rcases hz:one p with⟨e,q⟩|⟨a,q⟩
  ·rw[hz,Zn]at he;cases he
  ·rw[hz,Zk]at he
   obtain⟨h2,h3⟩:=hone _ _ _ h hz
   rcases hz2:Zda one n q with⟨e,r⟩|⟨m,r⟩
   ·rw[hz2,Zn]at he;cases he
   ·rw[hz2,Zk]at he
    obtain⟨h4,h5,h6⟩:=ZvR hone n q m r h2 hz2
    simp only[Except.ok.injEq,Yai]at he
    obtain⟨rfl,rfl⟩:=he
    exact⟨h4,by omega,by simp[h6]⟩
theorem Zbj {α:Type}{b:List Int}{p:Int}{en:Nat}{one:Int->Res α}{most:Int}(h:okT b p en)(hone: ∀t a q,okT b t en->one t= .ok (a,q)->okT b q en/\t<=q){l:List α}{t:Int}(he:Z3 (b.take en) most one p= .ok (l,t)):okT b t en/\p<t/\(l.length:Int)<=most:=by
 unfold Z3 at he
 rcases hz:Zh5 (b.take en) most p with⟨e,q⟩|⟨n,q⟩
 ·rw[hz,Zn]at he;cases he
 ·rw[hz,Zk]at he
  obtain⟨h2,h3,h4⟩:=ZcE h hz
  obtain⟨h5,h6,h7⟩:=ZvR hone _ _ _ _ h2 he
  exact⟨h5,by omega,by omega⟩
end Go.Proofs.YtimhmpdfioihlaaGreatDoor
namespace Go.Proofs.YtimhmpdfioihlaaGreatDoor
set_option maxRecDepth 20000
open Go Go.Abs Nat
attribute [local irreducible] AW AWL AC FW CW CWr IntKind.wrap
section
theorem Zed (l:List Int)(h:l.length<=1000000000000):AC Tryz.prog 55 [.view l.length 1 (Zi .i64 l),.view l.length 1 (Zi .i64 l)] (fun r m=>r= .bool true/\m=[]):=by
 have:=Zyp l l (by omega)
 rwa [Yae rfl]at this
open MB
theorem ZDI.cl {p:Prop}(h:p:=by
 first
  |refine AWL.frzG rfl rfl rfl ?_
  |refine AWL.cC (f:=55) ZEk rfl rfl rfl rfl rfl rfl (ht1) ?_
  |refine AWL.cC (f:=55) ZEk rfl rfl rfl rfl rfl rfl (ht2) ?_
 all_goals(apply_rules (newGoals:= .nonDependentOnly) only[dep];exact())):p:=h
open ZDI ZoC Zm in
theorem ZBw (s:Zig)(h1:s.i.length<=1000000000000)(h2:s.o.length<=1000000000000):AC Tryz.prog 57 [.fagg (ZhS s),.fagg (ZhS s)] (fun r m=>r= .bool true/\m=[]):=by
 obtain⟨i,o⟩:=s
 simp only at h1 h2
 have ht1:=Zed i h1
 have ht2:=Zed o h2
 unfold ZhS
 refine AC.enter Tryz.func57 rfl (Yaa rfl) ?_
 simp only[Tryz.f57]
 have nx:=trivial
 refine' Zx9
 all_goals first|exact⟨trivial,trivial⟩|exact⟨rfl,trivial⟩|exact⟨rfl,rfl⟩|exact⟨trivial,rfl⟩|(exfalso;omega)|trace_state
end
section
def Zhe (x:ZcS)(o:Ow):Ow:=Z9 x.f (Z9 [(x.f.length:Int)] (ZeQ x.c (Z6 [0] (Zy (decide ((x.f.length:Int)<=1024)) o))))
theorem ZFX.NM:type_of% @MB.NM/\type_of% @owM.eq_1:=
 ⟨MB.NM,@owM.eq_1⟩
open ZFX
theorem ZDJ.cl {p:Prop}(h:p:=by
 first
  |refine AWL.cM (f:=17) [(0,0),(1000,1000)] Zrv rfl rfl rfl rfl rfl rfl rfl (h1) ?_
  |refine AWL.cM (f:=20) [(0,0),(1000,1000)] ZwD rfl rfl rfl rfl rfl rfl rfl (h2) ?_
  |refine AWL.cM (f:=39) [(0,0),(1000,1000)] ZEi rfl rfl rfl rfl rfl rfl rfl (h3) ?_
  |refine AWL.cM (f:=21) [(0,0),(1000,1000)] Zp8 rfl rfl rfl rfl rfl rfl rfl (h4) ?_
  |refine AWL.cM (f:=21) [(0,0),(1000,1000)] Zp8 rfl rfl rfl rfl rfl rfl rfl (h5) ?_
  |refine AWL.frzG rfl rfl rfl ?_
 all_goals(apply_rules (newGoals:= .nonDependentOnly) only[dep];exact())):p:=h
open ZDJ Zfi Zm in
theorem ZrW (o:Ow)(x:ZcS)(hw:Zvy x.c)(hl:o.b.length+((Zw x.c).1.length+10*x.f.length+60)<=1000000000):AM Tryz.prog 38 [.ptr 0 0,.agg (ZcW x)] (owM 0 1000 o) [0] (fun r m=>r= .tup []/\m=owM 0 1000 (Zhe x o)):=by
 obtain⟨Y,hY⟩: ∃Y,Zhe x o=Y:=⟨_,rfl⟩
 rw[hY]
 unfold Zhe at hY
 have h1:=Zat o (decide ((x.f.length:Int)<=1024))
 have l1:=ZaE (decide ((x.f.length:Int)<=1024)) o
 generalize Zy (decide ((x.f.length:Int)<=1024)) o=o1 at hY h1 l1
 have h2:=Zbq o1 [0] (by(try simp only[List.length_singleton]);omega)
 have l2:=Z7 [0] o1
 (try simp only[List.length_singleton,Yag,List.length_nil]at l2)
 generalize Z6 [0] o1=o2 at hY h2 l2
 have h3:=Ziz o2 x.c hw (by omega)
 have l3:=ZcV x.c o2
 generalize ZeQ x.c o2=o3 at hY h3 l3
 have h4:=Zai o3 [(x.f.length:Int)] (by(try simp only[List.length_singleton,Yag,List.length_nil]);omega)
 have l4:=Zq [(x.f.length:Int)] o3
 (try simp only[List.length_singleton,Yag,List.length_nil]at l4)
 generalize Z9 [(x.f.length:Int)] o3=o4 at hY h4 l4
 have h5:=Zai o4 x.f (by(try simp only[List.length_singleton,Yag,List.length_nil]);omega)
 have l5:=Zq x.f o4
 (try simp only[List.length_singleton,Yag,List.length_nil]at l5)
 rw[hY]at h5
 obtain⟨b,bad⟩:=o
 obtain⟨b1,bad1⟩:=o1
 obtain⟨b2,bad2⟩:=o2
 obtain⟨b3,bad3⟩:=o3
 obtain⟨b4,bad4⟩:=o4
 obtain⟨bY,badY⟩:=Y
 unfold owM at h1 h2 h3 h4 h5 ⊢
 simp only at h1 h2 h3 h4 h5 ⊢
 obtain⟨xc,xf⟩:=x
 simp only[ZcW]at *
 obtain⟨c,hc⟩: ∃c,decide ((xf.length:Int)<=1024)=c:=⟨_,rfl⟩
 rw[hc]at h1
 refine AM.enter Tryz.func38 rfl (Yaa rfl) (fun pn=> ?_)
 simp only[Tryz.f38]
 clear hY hl l1 l2 l3 l4 l5
 have nx:=aI @hc trivial
 refine' Zcf
 all_goals first|exact⟨trivial,trivial⟩|exact⟨rfl,trivial⟩|exact⟨rfl,rfl⟩|exact⟨trivial,rfl⟩|(exfalso;omega)|trace_state
theorem Znw (x:ZcS)(o:Ow):(Zhe x o).b.length<=o.b.length+((Zw x.c).1.length+10*x.f.length+60):=by
 unfold Zhe
 have l1:=ZaE (decide ((x.f.length:Int)<=1024)) o
 generalize Zy (decide ((x.f.length:Int)<=1024)) o=o1 at l1 ⊢
 have l2:=Z7 [0] o1
 (try simp only[List.length_singleton,Yag,List.length_nil]at l2)
 generalize Z6 [0] o1=o2 at l2 ⊢
 have l3:=ZcV x.c o2
 generalize ZeQ x.c o2=o3 at l3 ⊢
 have l4:=Zq [(x.f.length:Int)] o3
 (try simp only[List.length_singleton,Yag,List.length_nil]at l4)
 generalize Z9 [(x.f.length:Int)] o3=o4 at l4 ⊢
 have l5:=Zq x.f o4
 (try simp only[List.length_singleton,Yag,List.length_nil]at l5)
 omega
end
section
def ZqN (x:Zig)(o:Ow):Ow:=ZbI x.o (Z9 [(x.o.length:Int)] (ZbI x.i (Z9 [(x.i.length:Int)] (Z6 [96] (Zy (decide ((x.i.length:Int)<=32)&&decide ((x.o.length:Int)<=32)) o)))))
theorem ZFY.NM:type_of% @MB.NM/\type_of% @owM.eq_1:=
 ⟨MB.NM,@owM.eq_1⟩
open ZFY
theorem ZDK.cl {p:Prop}(h:p:=by
 first
  |refine AWL.cM (f:=17) [(0,0),(1000,1000)] Zrv rfl rfl rfl rfl rfl rfl rfl (h1) ?_
  |refine AWL.cM (f:=20) [(0,0),(1000,1000)] ZwD rfl rfl rfl rfl rfl rfl rfl (h2) ?_
  |refine AWL.cM (f:=21) [(0,0),(1000,1000)] Zp8 rfl rfl rfl rfl rfl rfl rfl (h3) ?_
  |refine AWL.cM (f:=22) [(0,0),(1000,1000)] ZEh rfl rfl rfl rfl rfl rfl rfl (h4) ?_
  |refine AWL.cM (f:=21) [(0,0),(1000,1000)] Zp8 rfl rfl rfl rfl rfl rfl rfl (h5) ?_
  |refine AWL.cM (f:=22) [(0,0),(1000,1000)] ZEh rfl rfl rfl rfl rfl rfl rfl (h6) ?_
  |refine AWL.frzG rfl rfl rfl ?_
 all_goals(apply_rules (newGoals:= .nonDependentOnly) only[dep];exact())):p:=h
open ZDK Zfi Zm in
theorem ZvS (o:Ow)(x:Zig)(hl:o.b.length+(x.i.length+x.o.length+60)<=1000000000):AM Tryz.prog 19 [.ptr 0 0,.agg (ZhS x)] (owM 0 1000 o) [0] (fun r m=>r= .tup []/\m=owM 0 1000 (ZqN x o)):=by
 obtain⟨Y,hY⟩: ∃Y,ZqN x o=Y:=⟨_,rfl⟩
 rw[hY]
 unfold ZqN at hY
 have h1:=Zat o (decide ((x.i.length:Int)<=32)&&decide ((x.o.length:Int)<=32))
 have l1:=ZaE (decide ((x.i.length:Int)<=32)&&decide ((x.o.length:Int)<=32)) o
 generalize Zy (decide ((x.i.length:Int)<=32)&&decide ((x.o.length:Int)<=32)) o=o1 at hY h1 l1
 have h2:=Zbq o1 [96] (by(try simp only[List.length_singleton]);omega)
 have l2:=Z7 [96] o1
 (try simp only[List.length_singleton,Yag,List.length_nil]at l2)
 generalize Z6 [96] o1=o2 at hY h2 l2
 have h3:=Zai o2 [(x.i.length:Int)] (by(try simp only[List.length_singleton,Yag,List.length_nil]);omega)
 have l3:=Zq [(x.i.length:Int)] o2
 (try simp only[List.length_singleton,Yag,List.length_nil]at l3)
 generalize Z9 [(x.i.length:Int)] o2=o3 at hY h3 l3
 have h4:=Zg9 o3 x.i (by(try simp only[List.length_singleton]);omega)
 have l4:=Zb6 x.i o3
 (try simp only[List.length_singleton,Yag,List.length_nil]at l4)
 generalize ZbI x.i o3=o4 at hY h4 l4
 have h5:=Zai o4 [(x.o.length:Int)] (by(try simp only[List.length_singleton,Yag,List.length_nil]);omega)
 have l5:=Zq [(x.o.length:Int)] o4
 (try simp only[List.length_singleton,Yag,List.length_nil]at l5)
 generalize Z9 [(x.o.length:Int)] o4=o5 at hY h5 l5
 have h6:=Zg9 o5 x.o (by(try simp only[List.length_singleton]);omega)
 have l6:=Zb6 x.o o5
 (try simp only[List.length_singleton,Yag,List.length_nil]at l6)
 rw[hY]at h6
 obtain⟨b,bad⟩:=o
 obtain⟨b1,bad1⟩:=o1
 obtain⟨b2,bad2⟩:=o2
 obtain⟨b3,bad3⟩:=o3
 obtain⟨b4,bad4⟩:=o4
 obtain⟨b5,bad5⟩:=o5
 obtain⟨bY,badY⟩:=Y
 unfold owM at h1 h2 h3 h4 h5 h6 ⊢
 simp only at h1 h2 h3 h4 h5 h6 ⊢
 obtain⟨xi,xo⟩:=x
 simp only[ZhS]at *
 obtain⟨c,hc⟩: ∃c,decide ((xi.length:Int)<=32)=c:=⟨_,rfl⟩
 obtain⟨c2,hc2⟩: ∃c,decide ((xo.length:Int)<=32)=c:=⟨_,rfl⟩
 rw[hc,hc2]at h1
 refine AM.enter Tryz.func19 rfl (Yaa rfl) (fun pn=> ?_)
 simp only[Tryz.f19]
 clear hY hl l1 l2 l3 l4 l5 l6
 cases c<;>cases c2
 all_goals
  simp only[Bool.and_self,Bool.and_true,Bool.true_and,Bool.and_false,Bool.false_and]at h1
  have nx:=aI @hc (aI @hc2 trivial)
  refine' Zqg
 all_goals
  skip
 all_goals first|exact⟨trivial,trivial⟩|exact⟨rfl,trivial⟩|exact⟨rfl,rfl⟩|exact⟨trivial,rfl⟩|(exfalso;omega)|trace_state
theorem ZqO (x:Zig)(o:Ow):(ZqN x o).b.length<=o.b.length+(x.i.length+x.o.length+60):=by
 unfold ZqN
 have l1:=ZaE (decide ((x.i.length:Int)<=32)&&decide ((x.o.length:Int)<=32)) o
 generalize Zy (decide ((x.i.length:Int)<=32)&&decide ((x.o.length:Int)<=32)) o=o1 at l1 ⊢
 have l2:=Z7 [96] o1
 (try simp only[List.length_singleton,Yag,List.length_nil]at l2)
 generalize Z6 [96] o1=o2 at l2 ⊢
 have l3:=Zq [(x.i.length:Int)] o2
 (try simp only[List.length_singleton,Yag,List.length_nil]at l3)
 generalize Z9 [(x.i.length:Int)] o2=o3 at l3 ⊢
 have l4:=Zb6 x.i o3
 (try simp only[List.length_singleton,Yag,List.length_nil]at l4)
 generalize ZbI x.i o3=o4 at l4 ⊢
 have l5:=Zq [(x.o.length:Int)] o4
 (try simp only[List.length_singleton,Yag,List.length_nil]at l5)
 generalize Z9 [(x.o.length:Int)] o4=o5 at l5 ⊢
 have l6:=Zb6 x.o o5
 (try simp only[List.length_singleton,Yag,List.length_nil]at l6)
 omega
end
section
def ZqP (x:Zjy)(o:Ow):Ow:=Z9 [x.t] (Z6 [0] (Zgu x.n (Zgu x.m o)))
theorem ZFZ.NM:type_of% @MB.NM/\type_of% @owM.eq_1:=
 ⟨MB.NM,@owM.eq_1⟩
open ZFZ
theorem ZDL.cl {p:Prop}(h:p:=by
 first
  |refine AWL.cM (f:=25) [(0,0),(1000,1000)] ZEH rfl rfl rfl rfl rfl rfl rfl (h1) ?_
  |refine AWL.cM (f:=25) [(0,0),(1000,1000)] ZEH rfl rfl rfl rfl rfl rfl rfl (h2) ?_
  |refine AWL.cM (f:=20) [(0,0),(1000,1000)] ZwD rfl rfl rfl rfl rfl rfl rfl (h3) ?_
  |refine AWL.cM (f:=21) [(0,0),(1000,1000)] Zp8 rfl rfl rfl rfl rfl rfl rfl (h4) ?_
  |refine AWL.frzG rfl rfl rfl ?_
 all_goals(apply_rules (newGoals:= .nonDependentOnly) only[dep];exact())):p:=h
open ZDL Zfi Zm in
theorem ZvT (o:Ow)(x:Zjy)(hv_x_m:Zsm x.m)(hv_x_n:Zsm x.n)(hl:o.b.length+(x.m.length+x.n.length+100)<=1000000000):AM Tryz.prog 24 [.ptr 0 0,.agg (ZjF x)] (owM 0 1000 o) [0] (fun r m=>r= .tup []/\m=owM 0 1000 (ZqP x o)):=by
 obtain⟨Y,hY⟩: ∃Y,ZqP x o=Y:=⟨_,rfl⟩
 rw[hY]
 unfold ZqP at hY
 have h1:=ZlB o x.m hv_x_m (by omega)
 have l1:=Zec x.m o
 generalize Zgu x.m o=o1 at hY h1 l1
 have h2:=ZlB o1 x.n hv_x_n (by omega)
 have l2:=Zec x.n o1
 generalize Zgu x.n o1=o2 at hY h2 l2
 have h3:=Zbq o2 [0] (by(try simp only[List.length_singleton]);omega)
 have l3:=Z7 [0] o2
 (try simp only[List.length_singleton,Yag,List.length_nil]at l3)
 generalize Z6 [0] o2=o3 at hY h3 l3
 have h4:=Zai o3 [x.t] (by(try simp only[List.length_singleton,Yag,List.length_nil]);omega)
 have l4:=Zq [x.t] o3
 (try simp only[List.length_singleton,Yag,List.length_nil]at l4)
 rw[hY]at h4
 obtain⟨b,bad⟩:=o
 obtain⟨b1,bad1⟩:=o1
 obtain⟨b2,bad2⟩:=o2
 obtain⟨b3,bad3⟩:=o3
 obtain⟨bY,badY⟩:=Y
 unfold owM at h1 h2 h3 h4 ⊢
 simp only at h1 h2 h3 h4 ⊢
 obtain⟨xm,xn,xt⟩:=x
 simp only[ZjF]at *
 refine AM.enter Tryz.func24 rfl (Yaa rfl) (fun pn=> ?_)
 simp only[Tryz.f24]
 clear hY hl l1 l2 l3 l4
 have nx:=trivial
 refine' Zcf
 all_goals first|exact⟨trivial,trivial⟩|exact⟨rfl,trivial⟩|exact⟨rfl,rfl⟩|exact⟨trivial,rfl⟩|(exfalso;omega)|trace_state
theorem ZqQ (x:Zjy)(o:Ow):(ZqP x o).b.length<=o.b.length+(x.m.length+x.n.length+100):=by
 unfold ZqP
 have l1:=Zec x.m o
 generalize Zgu x.m o=o1 at l1 ⊢
 have l2:=Zec x.n o1
 generalize Zgu x.n o1=o2 at l2 ⊢
 have l3:=Z7 [0] o2
 (try simp only[List.length_singleton,Yag,List.length_nil]at l3)
 generalize Z6 [0] o2=o3 at l3 ⊢
 have l4:=Zq [x.t] o3
 (try simp only[List.length_singleton,Yag,List.length_nil]at l4)
 omega
end
section
def Zhf (x:ZdV)(o:Ow):Ow:=ZeQ x.c (Z6 [if x.mu=true then 1 else 0] (ZbI [x.t] o))
theorem ZF0.NM:type_of% @MB.NM/\type_of% @owM.eq_1:=
 ⟨MB.NM,@owM.eq_1⟩
open ZF0
theorem ZDM.cl {p:Prop}(h:p:=by
 first
  |refine AWL.cM (f:=22) [(0,0),(1000,1000)] ZEh rfl rfl rfl rfl rfl rfl rfl (h1) ?_
  |refine AWL.cM (f:=20) [(0,0),(1000,1000)] ZwD rfl rfl rfl rfl rfl rfl rfl (h2) ?_
  |refine AWL.cM (f:=39) [(0,0),(1000,1000)] ZEi rfl rfl rfl rfl rfl rfl rfl (h3) ?_
  |refine AWL.frzG rfl rfl rfl ?_
 all_goals(apply_rules (newGoals:= .nonDependentOnly) only[dep];exact())):p:=h
open ZDM Zfi Zm in
theorem ZrX (o:Ow)(x:ZdV)(hw:Zvy x.c)(hl:o.b.length+((Zw x.c).1.length+100)<=1000000000):AM Tryz.prog 33 [.ptr 0 0,.agg (Zde x)] (owM 0 1000 o) [0] (fun r m=>r= .tup []/\m=owM 0 1000 (Zhf x o)):=by
 obtain⟨Y,hY⟩: ∃Y,Zhf x o=Y:=⟨_,rfl⟩
 rw[hY]
 unfold Zhf at hY
 have h1:=Zg9 o [x.t] (by(try simp only[List.length_singleton]);omega)
 have l1:=Zb6 [x.t] o
 (try simp only[List.length_singleton,Yag,List.length_nil]at l1)
 generalize ZbI [x.t] o=o1 at hY h1 l1
 have h2:=Zbq o1 [if x.mu=true then 1 else 0] (by(try simp only[List.length_singleton]);omega)
 have l2:=Z7 [if x.mu=true then 1 else 0] o1
 (try simp only[List.length_singleton,Yag,List.length_nil]at l2)
 generalize Z6 [if x.mu=true then 1 else 0] o1=o2 at hY h2 l2
 have h3:=Ziz o2 x.c hw (by omega)
 have l3:=ZcV x.c o2
 rw[hY]at h3
 obtain⟨b,bad⟩:=o
 obtain⟨b1,bad1⟩:=o1
 obtain⟨b2,bad2⟩:=o2
 obtain⟨bY,badY⟩:=Y
 unfold owM at h1 h2 h3 ⊢
 simp only at h1 h2 h3 ⊢
 obtain⟨xt,xm,xc⟩:=x
 simp only[Zde]at *
 refine AM.enter Tryz.func33 rfl (Yaa rfl) (fun pn=> ?_)
 simp only[Tryz.f33]
 clear hY hl l1 l2 l3
 cases xm
 all_goals
  simp only[Bool.false_eq_true,↓reduceIte]at h2
  have nx:=trivial
  refine' Zcf
 all_goals
  skip
 all_goals first|exact⟨trivial,trivial⟩|exact⟨rfl,trivial⟩|exact⟨rfl,rfl⟩|exact⟨trivial,rfl⟩|(exfalso;omega)|trace_state
theorem Znx (x:ZdV)(o:Ow):(Zhf x o).b.length<=o.b.length+((Zw x.c).1.length+100):=by
 unfold Zhf
 have l1:=Zb6 [x.t] o
 (try simp only[List.length_singleton,Yag,List.length_nil]at l1)
 generalize ZbI [x.t] o=o1 at l1 ⊢
 have l2:=Z7 [if x.mu=true then 1 else 0] o1
 (try simp only[List.length_singleton,Yag,List.length_nil]at l2)
 generalize Z6 [if x.mu=true then 1 else 0] o1=o2 at l2 ⊢
 have l3:=ZcV x.c o2
 omega
end
end Go.Proofs.YtimhmpdfioihlaaGreatDoor
