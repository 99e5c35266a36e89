/- The closures of section. -/
import Derived.Test.YtimhmpdfioihlaaGreatDoorDP
import Derived.Test.YtimhmpdfioihlaaGreatDoorGPreV
import Derived.Test.YtimhmpdfioihlaaGreatDoorGCB
import Derived.Test.YtimhmpdfioihlaaGreatDoorGENCi
import Derived.Test.YtimhmpdfioihlaaGreatDoorGV6
import Derived.Test.YtimhmpdfioihlaaGreatDoorGRowInt
import Derived.Test.YtimhmpdfioihlaaGreatDoorGLook
set_option linter.unusedSimpArgs false
set_option linter.unusedVariables false
set_option maxHeartbeats 12800000
namespace Go.Proofs.YtimhmpdfioihlaaGreatDoor
set_option maxRecDepth 20000
open Go Go.Abs Nat
attribute [local irreducible] AW AWL AC FW CW CWr IntKind.wrap
open MB
theorem ZDO.cl {p:Prop}(h:p:=by
 first
  |refine AWL.cMP (f:=47) [] ZzS rfl rfl rfl rfl rfl rfl rfl (q1) ?_ ?_
  |refine AWL.cMP (f:=48) [(0,0)] ZzT rfl rfl rfl rfl rfl rfl rfl (q0) ?_ ?_
  |refine AWL.cMP (f:=85) [(0,0)] ZGs rfl rfl rfl rfl rfl rfl rfl (q2) ?_ ?_
 all_goals(apply_rules (newGoals:= .nonDependentOnly) only[dep];exact())):p:=h
theorem ZDP.cl {p:Prop}(h:p:=by
 first
  |refine AWL.cMP (f:=85) [(0,0)] ZGs rfl rfl rfl rfl rfl rfl rfl (q2) ?_ ?_
 all_goals(apply_rules (newGoals:= .nonDependentOnly) only[dep];exact())):p:=h
open ZDO Zgn Zm in
theorem ZyZ {b:List Int}{p:Int}{en:Nat}(h:okT b p en):AMP Tryz.prog 84 [.ptr 3 0] (tpM 0 b p en++[(3,⟨false,[.ptr 0 0]⟩)]) [0,3] (ZlY (ZoO (b.take en) p) (fun x=> .agg (Zgv x)) b en) (ZlZ (ZoO (b.take en) p) b en):=by
 have q0:=Zdb h
 have m0:=fun x y=>Za2 h (n:=x) (t:=y)
 have q1:True:=trivial
 have q2:True:=trivial
 have d1:True:=trivial
 obtain⟨A,hA⟩: ∃A,ZoO (b.take en) p=A:=⟨_,rfl⟩
 rw[hA]
 unfold ZoO ZaT at hA
 unfold TF OKR ERR tpM at q0
 unfold ZlY ZlZ tpM
 rcases z0:Zcj (b.take en) p with⟨e,t0⟩|⟨c,t0⟩
 all_goals
  rw[z0]at hA q0
  simp only[Zk,Zn]at hA q0
 case' error=>subst hA
 case' ok=>
  obtain⟨h0,_,cb⟩:=m0 _ _ z0
  by_cases c1:c=112
  case' neg=>
   have q1:=Zfs
   have d1:(c==112)=false:=by rw[Yam];exact c1
   rw[if_neg c1]at hA
   subst hA
  case' pos=>
   have q1:=Zf7
   have d1:(c==112)=true:=by rw[beq_iff_eq];exact c1
   rw[if_pos c1]at hA
   have q2:=ZvK h0 1024
   unfold TF OKR ERR tpM at q2
   rcases z2:Zjx (b.take en) 1024 t0 with⟨e,t1⟩|⟨x,t1⟩
   all_goals
    rw[z2]at hA q2
    simp only at q2
    subst hA
 all_goals
  refine AMP.enter Tryz.func84 rfl (Yaa rfl) (fun pn=> ?_)
  simp only[Tryz.f84]
  (try simp only[ZDB]at q2)
  have nx:=aI @d1 trivial
  refine' Zqa
  all_goals first|exact⟨trivial,trivial⟩|exact⟨rfl,trivial⟩|exact⟨rfl,rfl⟩|exact⟨trivial,rfl⟩|(exfalso;omega)|trace_state
open ZDP Zgn Zm in
theorem Zy0 {b:List Int}{p:Int}{en:Nat}(h:okT b p en):AMP Tryz.prog 86 [.ptr 3 0] (tpM 0 b p en++[(3,⟨false,[.ptr 0 0]⟩)]) [0,3] (ZlY (Zjx (b.take en) 16 p) (fun x=> .agg (Zgv x)) b en) (ZlZ (Zjx (b.take en) 16 p) b en):=by
 have q2:=ZvK h 16
 have q1:True:=trivial
 have q0:True:=trivial
 obtain⟨A,hA⟩: ∃A,Zjx (b.take en) 16 p=A:=⟨_,rfl⟩
 rw[hA]
 unfold TF OKR ERR tpM at q2
 unfold ZlY ZlZ tpM
 rcases z2:Zjx (b.take en) 16 p with⟨e,t1⟩|⟨x,t1⟩
 all_goals
  rw[z2]at hA q2
  simp only at q2
  subst hA
  refine AMP.enter Tryz.func86 rfl (Yaa rfl) (fun pn=> ?_)
  simp only[Tryz.f86]
  (try simp only[ZDB]at q2)
  have nx:=trivial
  refine' Zqa
  all_goals first|exact⟨trivial,trivial⟩|exact⟨rfl,trivial⟩|exact⟨rfl,rfl⟩|exact⟨trivial,rfl⟩|(exfalso;omega)|trace_state
end Go.Proofs.YtimhmpdfioihlaaGreatDoor
namespace Go.Proofs.YtimhmpdfioihlaaGreatDoor
set_option maxRecDepth 20000
open Go Go.Abs Nat
attribute [local irreducible] AW AWL AC FW CW CWr IntKind.wrap
section
def Tc (pn:Nat->Option BI)(b:List Int)(en T:Nat)(q:Int)(l:List Int)(runs:Nat):St:={ n:=42,slots:=[(2,.ptr 2 0),(3,.ptr 34011 0),(4,.ptr 4 0),(5,.int .i64 (runs:Int))],mem:=[(0,⟨false,[.view b.length 1 (Zi .u8 b),.int .i64 T,.int .i64 en]⟩),(2,⟨false,[.ref 3000 0 0 1,.nils]⟩),(3000,⟨true,[]⟩),(34011,⟨false,[.view b.length 1 (Zi .u8 b),.int .i64 q,.int .i64 T]⟩),(4,⟨false,[.ref 5000 0 l.length 1,.nils]⟩),(5000,⟨true,Zi .i64 l⟩)],lent:=[(34011,none),(0,pn 0)] }
def Ti (pn:Nat->Option BI)(b:List Int)(en T:Nat)(q:Int)(l:List Int)(runs k j:Nat)(c:Int):St:={ n:=42,slots:=[(2,.ptr 2 0),(3,.ptr 34011 0),(4,.ptr 4 0),(5,.int .i64 (runs:Int)),(7,.int .i64 c),(26,.int .i64 (k:Int)),(27,.int .i64 (j:Int))],mem:=[(0,⟨false,[.view b.length 1 (Zi .u8 b),.int .i64 T,.int .i64 en]⟩),(2,⟨false,[.ref 3000 0 0 1,.nils]⟩),(3000,⟨true,[]⟩),(34011,⟨false,[.view b.length 1 (Zi .u8 b),.int .i64 q,.int .i64 T]⟩),(4,⟨false,[.ref 5000 0 l.length 1,.nils]⟩),(5000,⟨true,Zi .i64 l⟩)],lent:=[(34011,none),(0,pn 0)] }
def inR {α:Type}(T:Int)(x:Res α):Res α:=match x with
 |.ok (a,_)=> .ok (a,T)
 |.error (e,_)=> .error (e,T)
def Zv1 (ys:List Int)(x:Res (List Int)):Res Zb8:=bnd x fun l t=>bnd (Zea ys t) fun c t=>ZaT (t=ys.length) (fun t=> .ok (⟨l,c⟩,t)) t
theorem ZDQ.NM:type_of% @MB.NM/\type_of% @Tc.eq_1/\type_of% @Ti.eq_1:=
 ⟨MB.NM,@Tc.eq_1,@Ti.eq_1⟩
open ZDQ
theorem Zo2.kp:type_of% (@Z2 [0,2,3,4,5,6,7,26,27]):= @Z2 [0,2,3,4,5,6,7,26,27]
theorem Zo2.cl {p:Prop}(h:p:=by
 first
  |refine AWL.cMP (f:=50) [(0,0)] Zrw rfl rfl rfl rfl rfl rfl rfl (hn) ?_ ?_
  |refine AWL.cMP (f:=49) [(0,0)] ZEI rfl rfl rfl rfl rfl rfl rfl (hp) ?_ ?_
  |refine AWL.cMP (f:=50) [(0,34011)] Zrw rfl rfl rfl rfl rfl rfl rfl (hr) ?_ ?_
  |refine AWL.cMP (f:=115) [(0,34011)] Zw0 rfl rfl rfl rfl rfl rfl rfl (hc) ?_ ?_
  |refine AWL.cMP (f:=116) [(0,34011)] Zw1 rfl rfl rfl rfl rfl rfl rfl (hk) ?_ ?_
  |refine AWL.cMP (f:=117) [(0,34011)] Zw2 rfl rfl rfl rfl rfl rfl rfl (he) ?_ ?_
  |refine AWL.cMP (f:=53) [(0,34011)] ZGp rfl rfl rfl rfl rfl rfl rfl (hd) ?_ ?_
 all_goals(apply_rules (newGoals:= .nonDependentOnly) only[dep];exact())):p:=h
theorem Zo2.rt {p:Prop}(h:p:=by
 first|(refine AW.frzRet 3000 rfl rfl ?_;(try refine' Zf))
 all_goals(apply_rules (newGoals:= .nonDependentOnly) only[dep];exact())):p:=h
open Zo2 Zm in
theorem Zy1 {b:List Int}{p:Int}{en:Nat}(h:okT b p en):TF 94 [] b en p (Zg4 (b.take en) p) (fun x=> .agg (ZjH x)):=by
 have hn:=ZcC h
 have hnm:=fun n t=>Zbo h (n:=n) (t:=t)
 have hlen:=h.len
 have hp:True:=trivial
 have hr:True:=trivial
 have hc:True:=trivial
 have hk:True:=trivial
 have he:True:=trivial
 have hd:True:=trivial
 obtain⟨A,hA⟩: ∃A,Zg4 (b.take en) p=A:=⟨_,rfl⟩
 rw[hA]
 unfold Zg4 Zg0 at hA
 unfold TF OKR ERR tpM at hn
 unfold TF OKR ERR tpM
 rcases hz:nmT (b.take en) p with⟨e,t⟩|⟨n,t⟩
 all_goals
  rw[hz]at hA hn hnm
  simp only[Zk,Zn]at hA hn
 ·subst hA
  refine AMP.enter Tryz.func94 rfl (Yaa rfl) (fun pn=> ?_)
  simp only[Tryz.f94]
  have nx:=trivial
  refine' Zp
  all_goals first|exact⟨trivial,trivial⟩|exact⟨rfl,trivial⟩|exact⟨rfl,rfl⟩|exact⟨trivial,rfl⟩|(exfalso;omega)|trace_state
 obtain⟨h2,h3,h4⟩:=hnm _ _ rfl
 have hp:=Zln h2 n h4
 unfold tpM at hp
 unfold ZoN at hA
 rw[hlen]at hA
 by_cases c:n<=en-t
 case neg=>
  rw[if_pos (by omega)]at hA
  simp only[c,not_false_eq_true,true_and,false_and]at hp
  subst hA
  refine AMP.enter Tryz.func94 rfl (Yaa rfl) (fun pn=> ?_)
  simp only[Tryz.f94]
  have nx:=trivial
  refine' Zp
  all_goals first|exact⟨trivial,trivial⟩|exact⟨rfl,trivial⟩|exact⟨rfl,rfl⟩|exact⟨trivial,rfl⟩|(exfalso;omega)|trace_state
 rw[if_neg (by omega),Zk]at hA
 simp only[c,true_and,not_true_eq_false,false_and]at hp
 obtain⟨T,hT⟩: ∃T:Nat,t+n=T:=⟨(t+n).toNat,by have:=h2.p0;omega⟩
 rw[hT]at hA hp
 have hys:(b.take en).take T=b.take T:=by rw[List.take_take,Nat.min_eq_left (by have:=h2.p1;omega)]
 have ho:okT b t T:=⟨h2.hb,h2.hl,by have:=h2.he;omega,h2.p0,by omega⟩
 unfold inT at hA
 rw[Yap,hys]at hA
 obtain⟨B,hB⟩: ∃B,Zlk (b.take T) t=B:=⟨_,rfl⟩
 rw[hB]at hA
 have hA:inR T B=A:=hA
 unfold Zlk at hB
 have hr:=ZcC ho
 have hrm:=fun n t=>Zbo ho (n:=n) (t:=t)
 unfold TF OKR ERR tpM at hr
 clear hnm
 rcases hz2:nmT (b.take T) t with⟨e,q⟩|⟨runs,q⟩
 all_goals
  rw[hz2]at hB hr hrm
  simp only[Zk,Zn]at hB hr
 ·subst hB
  simp only[inR]at hA
  subst hA
  refine AMP.enter Tryz.func94 rfl (Yaa rfl) (fun pn=> ?_)
  simp only[Tryz.f94]
  have nx:=trivial
  refine' Zp
  all_goals first|exact⟨trivial,trivial⟩|exact⟨rfl,trivial⟩|exact⟨rfl,rfl⟩|exact⟨trivial,rfl⟩|(exfalso;omega)|trace_state
 obtain⟨h5,h6,h7⟩:=hrm _ _ rfl
 obtain⟨R,rfl⟩: ∃R:Nat,runs=R:=⟨runs.toNat,by omega⟩
 have hB:Zv1 (b.take T) (ZfZ (b.take T) R [] q)=B:=hB
 clear hrm hz2 hz
 refine AMP.enter Tryz.func94 rfl (Yaa rfl) (fun pn=> ?_)
 simp only[Tryz.f94]
 have nx:=trivial
 refine' Zp
 refine AW.loop [2,3,4,5] [0,2,3000,34011,4,5000] (fun m st=> ∃(R:Nat) (q:Int) (l:List Int),st=Tc pn b en T q l R/\okT b q T/\l.length<=512/\(R:Int)<4294967296/\Zv1 (b.take T) (ZfZ (b.take T) R l q)=B/\R=m) ?_ ?_
 ·exact⟨_,R,q,[],rfl,h5,Nat.zero_le _,h7.2,hB,rfl⟩
 clear hB h5 h6 h7 hr hn hp
 rintro m st ⟨R,q,l,rfl,hq,hl,hR,hB,rfl⟩
 rcases R with _|R
 ·rw[ZfZ]at hB
  simp only[Zv1,Zk]at hB
  have he:=ZiC hq
  have hem:=fun n t=>ZeR hq (c:=n) (t:=t)
  have hcut:List.take l.length (Zi .i64 l)=Zi .i64 l:=Yad (by rw[Zb];omega)
  unfold TF OKR ERR tpM ZBp at he
  rcases hz3:Zea (b.take T) q with⟨e,r⟩|⟨cd,r⟩
  all_goals
   rw[hz3]at hB he hem
   simp only[Zk,Zn]at hB he
  case' error=>
   subst hB
   simp only[inR]at hA
   subst hA
  case' ok=>
   obtain⟨h8,h9⟩:=hem _ _ rfl
   have hd:=ZqB h8
   unfold TF OKR ERR tpM Zll at hd
   simp only[ZaT]at hB hd
   by_cases c4:r=((b.take T).length:Int)
   case' neg=>
    rw[if_neg c4]at hB hd
    subst hB
    simp only[inR]at hA
    subst hA
   case' pos=>
    rw[if_pos c4]at hB hd
    simp only at hd
    subst hB
    simp only[inR]at hA
    subst hA
  all_goals
   have nx:=aI @hcut trivial
   refine' Zp
   all_goals first|exact⟨trivial,trivial⟩|exact⟨rfl,trivial⟩|exact⟨rfl,rfl⟩|exact⟨trivial,rfl⟩|(exfalso;omega)|trace_state
 ·have hc:=Zby hq (512-(l.length:Int))
  have hcm:=fun n t=>ZcE hq (most:=512-(l.length:Int)) (n:=n) (t:=t)
  have e1:IntKind.i64.wrap (512-(l.length:Int))=512-(l.length:Int):=Zc _ (by omega) (by omega)
  have e2:IntKind.i64.wrap (((R+1:Nat):Int)-1)=(R:Int):=by rw[Zc _ (by omega) (by omega)];omega
  have d1:decide (((R+1:Nat):Int)>0)=true:=Yae (by omega)
  rw[ZfZ]at hB
  unfold TF OKR ERR tpM at hc
  rcases hz3:Zh5 (b.take T) (512-(l.length:Int)) q with⟨e,r⟩|⟨k,r⟩
  all_goals
   rw[hz3]at hB hc hcm
   simp only[Zv1,Zk,Zn]at hB hc
  ·subst hB
   simp only[inR]at hA
   subst hA
   have nx:=aI @e1 (aI @d1 trivial)
   refine' Zp
   all_goals first|exact⟨trivial,trivial⟩|exact⟨rfl,trivial⟩|exact⟨rfl,rfl⟩|exact⟨trivial,rfl⟩|(exfalso;omega)|trace_state
  obtain⟨h8,h9,h10⟩:=hcm _ _ rfl
  obtain⟨K,rfl⟩: ∃K:Nat,k=K:=⟨k.toNat,by omega⟩
  have hk:=Ziy h8
  have hkm:=fun n t=>Zcq h8 (n:=n) (t:=t)
  unfold TF OKR ERR tpM at hk
  rcases hz4:ZcR (b.take T) r with⟨e,s⟩|⟨cc,s⟩
  all_goals
   rw[hz4]at hB hk hkm
   simp only[Zk,Zn]at hB hk
  ·subst hB
   simp only[inR]at hA
   subst hA
   have nx:=aI @e1 (aI @d1 trivial)
   refine' Zp
   all_goals first|exact⟨trivial,trivial⟩|exact⟨rfl,trivial⟩|exact⟨rfl,rfl⟩|exact⟨trivial,rfl⟩|(exfalso;omega)|trace_state
  obtain⟨h11,h12,h13⟩:=hkm _ _ rfl
  rw[Yap]at hB
  have hB:Zv1 (b.take T) (ZfZ (b.take T) R (l++List.replicate K cc) s)=B:=hB
  clear hkm hcm hz3 hz4
  have nx:=aI @e1 (aI @d1 trivial)
  refine' Zp
  refine AW.loop [2,3,4,5,7,26,27] [0,2,3000,34011,4,5000] (fun m st=> ∃(j:Nat),st=Ti pn b en T s (l++List.replicate j cc) (R+1) K j cc/\j<=K/\m=K-j) ?_ ?_
  ·exact⟨_,0,by simp only[List.replicate_zero,List.append_nil];rfl,Nat.zero_le _,rfl⟩
  clear hc hk
  rintro m st ⟨j,rfl,hj,rfl⟩
  have hjl:(l++List.replicate j cc).length<=512:=by rw[Yal,List.length_replicate];omega
  by_cases hjk:j<K
  ·have e7:IntKind.i64.wrap ((j:Int)+1)=((j+1:Nat):Int):=by rw[Zc _ (by omega) (by omega)];omega
   have d2:decide ((j:Int)<(K:Int))=true:=Yae (by omega)
   have hj1:l++List.replicate (j+1) cc=l++List.replicate j cc++[cc]:=by rw[List.replicate_succ',Ya6]
   have hl1:(l++List.replicate j cc++[cc]).length=(l++List.replicate j cc).length+1:=by rw[Yal];rfl
   generalize l++List.replicate j cc=L at hjl hj1 hl1
   have hcut:List.take L.length (Zi .i64 L)=Zi .i64 L:=Yad (by rw[Zb];omega)
   have nx:=aI @e7 (aI @d2 (aI @hcut trivial))
   refine' Zp
   all_goals first
    |exact⟨K-(j+1),by omega,j+1,by rw[hj1,Ti,hl1];simp only[Zi,List.map_append,List.map_cons,List.map_nil];rfl,by omega,rfl⟩
  ·have d2:decide ((j:Int)<(K:Int))=false:=Yaf (by omega)
   obtain rfl:j=K:=by omega
   have nx:=aI @e2 (aI @d2 trivial)
   refine' Zp
   all_goals first
    |exact⟨R,by omega,R,s,l++List.replicate j cc,rfl,h11,hjl,by omega,hB,rfl⟩
end
section
theorem Zhz:eqL [] []=true:=rfl
theorem Zfz (a b:V)(la lb:List V):eqL (a::la) (b::lb)=(eqS a b&&eqL la lb):=rfl
theorem ZhA (k k':IntKind)(a b:Int):eqS (.int k a) (.int k' b)=(a==b):=rfl
theorem ZhB (a b:List UInt8):eqS (.str a) (.str b)=(a==b):=rfl
theorem Zdv {α:Type}{f:α->List V}{c:Nat}(hf: ∀x,(f x).length=c)(d:α): ∀(l:List α) (k:Nat),k<l.length->List.drop (k*c) (l.flatMap f)=f (l.getD k d)++(l.drop (k+1)).flatMap f
 |[],k,h=>by simp at h
 |x::l,0,_=>by simp
 |x::l,k+1,h=>by
  rw[List.flatMap_cons,show(k+1)*c=(f x).length+k*c by rw[hf,Nat.succ_mul];omega,List.drop_append,Ya7 (by omega),List.nil_append,Nat.add_sub_cancel_left,Zdv hf d l k (by simp at h;omega)]
  rfl
theorem Zbr {α:Type}{f:α->List V}{c:Nat}(hf: ∀x,(f x).length=c)(d:α){l:List α}{k:Nat}(h:k<l.length):List.take c (List.drop (k*c) (l.flatMap f))=f (l.getD k d):=by
 rw[Zdv hf d l k h,List.take_append_of_le_length (by rw[hf];exact Nat.le_refl _),Yad (by rw[hf];exact Nat.le_refl _)]
theorem Zbs {α:Type}{f:α->List V}{c:Nat}(hf: ∀x,(f x).length=c)(d:α){l:List α}{k:Nat}(h:k<l.length):c<=(List.drop (k*c) (l.flatMap f)).length:=by
 rw[Zdv hf d l k h,Yal,hf];omega
theorem ZcF {α:Type}{l:List α}{k:Nat}(d:α)(h:k<l.length):l.getD k d∈l:=by
 rw[Yah,Yab h];exact List.getElem_mem h
def G23 (l:List (Int×Int))(k:Nat):St:={ n:=26,slots:=[(0,.view l.length 2 (l.flatMap Zgv)),(1,.view l.length 2 (l.flatMap Zgv)),(5,.int .i64 (k:Int))],mem:=[] }
theorem ZF2.NM:type_of% @MB.NM/\type_of% @G23.eq_1:=
 ⟨MB.NM,@G23.eq_1⟩
open ZF2
open ZhJ ZuG in
theorem Zv2 (l:List (Int×Int))(hl:l.length<=1000000000000):AC Tryz.prog 56 [.view l.length 2 (l.flatMap Zgv),.view l.length 2 (l.flatMap Zgv)] (fun r m=>r= .bool true/\m=[]):=by
 refine AC.enter Tryz.func56 rfl (Yaa rfl) ?_
 simp only[Tryz.f56]
 have nx:=trivial
 refine' Zlc
 refine AW.loop [0,1,5] [] (fun m st=> ∃k:Nat,st=G23 l k/\k<=l.length/\m=l.length-k) ?_ ?_
 ·exact⟨_,0,rfl,Nat.zero_le _,rfl⟩
 rintro m st ⟨k,rfl,hk,rfl⟩
 by_cases hkl:k<l.length
 ·have e7:IntKind.i64.wrap ((k:Int)+1)=((k+1:Nat):Int):=Zc _ (by omega) (by omega)
  have hd1:decide ((k:Int)<(l.length:Int))=true:=Yae (by omega)
  have l1:=Zbr ZfO (0,0) hkl
  have r1:=Zbs ZfO (0,0) hkl
  generalize l.getD k (0,0)=x at l1
  obtain⟨x1,x2⟩:=x
  have l1:List.take 2 (List.drop (k*2) (l.flatMap Zgv))=[.int .i64 x1,.int .i64 x2]:=l1
  have nx:=aI @e7 (aI @hd1 (aI @l1 (aI @Zhz (aI @Zfz (aI @ZhA (aI @ZhB (aI @Ya4.{0} (aI @Bool.and_self (aI @Bool.not_true trivial)))))))))
  refine' Zlc
  all_goals first
   |exact⟨l.length-(k+1),by omega,k+1,rfl,by omega,rfl⟩
 ·have hd1:decide ((k:Int)<(l.length:Int))=false:=Yaf (by omega)
  have nx:=aI @hd1 trivial
  refine' Zlc
  all_goals first|exact⟨trivial,trivial⟩|exact⟨rfl,trivial⟩|exact⟨rfl,rfl⟩|exact⟨trivial,rfl⟩|(exfalso;omega)|trace_state
end
end Go.Proofs.YtimhmpdfioihlaaGreatDoor
namespace Go.Proofs.YtimhmpdfioihlaaGreatDoor
set_option maxRecDepth 20000
open Go Go.Abs
def SLm:TypeId->List (Nat×Nat):=fun t=>if t=32 then[(0,2),(1,3),(2,1),(3,2),(4,2),(5,3),(6,3),(8,2),(9,2),(10,2)]else SL t
theorem ZGK:SLm 2=[]/\SLm 3=[]/\SLm 4=[]/\SLm 5=[]/\SLm 9=[]/\SLm 12=[]/\SLm 20=[]/\SLm 22=[]/\SLm 23=[]/\SLm 24=[(0,1)]/\SLm 25=[]/\SLm 26=[]/\SLm 27=[]/\SLm 28=[]/\SLm 29=[]/\SLm 30=[]/\SLm 32=[(0,2),(1,3),(2,1),(3,2),(4,2),(5,3),(6,3),(8,2),(9,2),(10,2)]/\SLm 34=[]/\SLm 35=[]/\SLm 44=[]/\SLm 45=[]/\SLm 47=[]/\SLm 48=[]/\SLm 50=[(5,1)]/\SLm 51=[]/\SLm 53=[(0,1)]/\SLm 55=[]/\SLm 57=[]/\SLm 59=[]/\SLm 62=[]/\SLm 64=[]/\SLm 77=[]/\SLm 82=[]/\SLm 96=[]/\SLm 98=[]/\SLm 100=[]/\SLm 140=[]/\SLm 142=[]/\SLm 147=[]/\SLm 148=[]/\SLm 152=[]/\SLm 169=[(3,1),(4,1)]/\SLm 179=[]/\SLm 182=[]/\SLm 183=[]/\SLm 185=[]/\SLm 188=[]/\SLm 192=[]/\SLm 194=[(2,1)]/\SLm 209=[]/\SLm 216=[]/\SLm 221=[]:=⟨rfl,rfl,rfl,rfl,rfl,rfl,rfl,rfl,rfl,rfl,rfl,rfl,rfl,rfl,rfl,rfl,rfl,rfl,rfl,rfl,rfl,rfl,rfl,rfl,rfl,rfl,rfl,rfl,rfl,rfl,rfl,rfl,rfl,rfl,rfl,rfl,rfl,rfl,rfl,rfl,rfl,rfl,rfl,rfl,rfl,rfl,rfl,rfl,rfl,rfl,rfl,rfl⟩
end Go.Proofs.YtimhmpdfioihlaaGreatDoor
namespace Go.Proofs.YtimhmpdfioihlaaGreatDoor
set_option maxRecDepth 20000
open Go Go.Abs Nat
attribute [local irreducible] AW AWL AC FW CW CWr IntKind.wrap
section
def ZqW (x:Int×Int)(o:Ow):Ow:=ZoW 1024 x (Z6 [112] o)
theorem ZF3.NM:type_of% @MB.NM/\type_of% @owM.eq_1:=
 ⟨MB.NM,@owM.eq_1⟩
open ZF3
theorem ZDR.cl {p:Prop}(h:p:=by
 first
  |refine AWL.cM (f:=20) [(0,0),(1000,1000)] ZwD rfl rfl rfl rfl rfl rfl rfl (h1) ?_
  |refine AWL.cM (f:=30) [(0,0),(1000,1000)] ZGn rfl rfl rfl rfl rfl rfl rfl (h2) ?_
  |refine AWL.frzG rfl rfl rfl ?_
 all_goals(apply_rules (newGoals:= .nonDependentOnly) only[dep];exact())):p:=h
open ZDR Zfi Zm in
theorem Zv3 (o:Ow)(x:Int×Int)(hl:o.b.length+60<=1000000000):AM Tryz.prog 29 [.ptr 0 0,.agg (Zgv x)] (owM 0 1000 o) [0] (fun r m=>r= .tup []/\m=owM 0 1000 (ZqW x o)):=by
 obtain⟨Y,hY⟩: ∃Y,ZqW x o=Y:=⟨_,rfl⟩
 rw[hY]
 unfold ZqW at hY
 have h1:=Zbq o [112] (by(try simp only[List.length_singleton]);omega)
 have l1:=Z7 [112] o
 (try simp only[List.length_singleton,Yag,List.length_nil]at l1)
 generalize Z6 [112] o=o1 at hY h1 l1
 have h2:=ZvB o1 x 1024 (by omega)
 have l2:=ZiA 1024 x o1
 rw[hY]at h2
 obtain⟨b,bad⟩:=o
 obtain⟨b1,bad1⟩:=o1
 obtain⟨bY,badY⟩:=Y
 unfold owM at h1 h2 ⊢
 simp only at h1 h2 ⊢
 obtain⟨x1,x2⟩:=x
 simp only[Zgv]at *
 refine AM.enter Tryz.func29 rfl (Yaa rfl) (fun pn=> ?_)
 simp only[Tryz.f29]
 clear hY hl l1 l2
 have nx:=trivial
 refine' Zcf
 all_goals first|exact⟨trivial,trivial⟩|exact⟨rfl,trivial⟩|exact⟨rfl,rfl⟩|exact⟨trivial,rfl⟩|(exfalso;omega)|trace_state
theorem ZqX (x:Int×Int)(o:Ow):(ZqW x o).b.length<=o.b.length+60:=by
 unfold ZqW
 have l1:=Z7 [112] o
 (try simp only[List.length_singleton,Yag,List.length_nil]at l1)
 generalize Z6 [112] o=o1 at l1 ⊢
 have l2:=ZiA 1024 x o1
 omega
end
section
def Zr1 (x:Int×Int)(o:Ow):Ow:=ZoW 16 x o
theorem ZF4.NM:type_of% @MB.NM/\type_of% @owM.eq_1:=
 ⟨MB.NM,@owM.eq_1⟩
open ZF4
theorem ZDS.cl {p:Prop}(h:p:=by
 first
  |refine AWL.cM (f:=30) [(0,0),(1000,1000)] ZGn rfl rfl rfl rfl rfl rfl rfl (h1) ?_
  |refine AWL.frzG rfl rfl rfl ?_
 all_goals(apply_rules (newGoals:= .nonDependentOnly) only[dep];exact())):p:=h
open ZDS Zfi Zm in
theorem Zv4 (o:Ow)(x:Int×Int)(hl:o.b.length+60<=1000000000):AM Tryz.prog 31 [.ptr 0 0,.agg (Zgv x)] (owM 0 1000 o) [0] (fun r m=>r= .tup []/\m=owM 0 1000 (Zr1 x o)):=by
 obtain⟨Y,hY⟩: ∃Y,Zr1 x o=Y:=⟨_,rfl⟩
 rw[hY]
 unfold Zr1 at hY
 have h1:=ZvB o x 16 (by omega)
 have l1:=ZiA 16 x o
 rw[hY]at h1
 obtain⟨b,bad⟩:=o
 obtain⟨bY,badY⟩:=Y
 unfold owM at h1 ⊢
 simp only at h1 ⊢
 obtain⟨x1,x2⟩:=x
 simp only[Zgv]at *
 refine AM.enter Tryz.func31 rfl (Yaa rfl) (fun pn=> ?_)
 simp only[Tryz.f31]
 clear hY hl l1
 have nx:=trivial
 refine' Zcf
 all_goals first|exact⟨trivial,trivial⟩|exact⟨rfl,trivial⟩|exact⟨rfl,rfl⟩|exact⟨trivial,rfl⟩|(exfalso;omega)|trace_state
theorem ZqY (x:Int×Int)(o:Ow):(Zr1 x o).b.length<=o.b.length+60:=by
 unfold Zr1
 have l1:=ZiA 16 x o
 omega
end
section
def ZBy (pn:Nat->Option BI)(o p:Ow)(id:Int)(f1:FuncId)(l:List Zig)(k:Nat):St:={ n:=48,slots:=[(0,.ptr 0 0),(1,.int .u8 id),(4,.fn f1 []),(10,.ptr 27 0),(33,.view l.length 2 (l.flatMap ZhS)),(34,.int .i64 (l.length:Int)),(35,.int .i64 (k:Int))],mem:=owM 0 1000 o++owM 27 28000 p,lent:=[(0,pn 0),(1000,none)] }
theorem ZBz.NM:type_of% @NSX/\type_of% @St.keepS.eq_1/\type_of% @TY/\type_of% @ZjT/\type_of% @Zb/\type_of% @owM.eq_1/\type_of% @ZBy.eq_1:=
 ⟨NSX,St.keepS.eq_1,@TY,@ZjT,@Zb,@owM.eq_1,@ZBy.eq_1⟩
open ZBz
open ZeB ZeC Zm in
theorem Zv5 (o:Ow)(id most:Int)(l:List Zig){f1:FuncId}(hcb:Za Tryz.prog f1=true){f:Zig->Ow->Ow}{sz:Zig->Nat}(hsz: ∀x p,(f x p).b.length<=p.b.length+sz x)
 (hone: ∀x p,x∈l->p.b.length+sz x<=1000000000->AM Tryz.prog f1 [.ptr 0 0,.agg (ZhS x)] (owM 0 1000 p) [0] (fun r m=>r= .tup []/\m=owM 0 1000 (f x p)))
 (hl:o.b.length+(Zaa sz l+30)<=1000000000) (hn:l.length<=1000000000) :
 AM Tryz.prog 18 [.ptr 0 0,.int .u8 id,.int .i64 most,.view l.length 2 (l.flatMap ZhS),.fn f1 []] (owM 0 1000 o) [0] (fun r m=>r= .tup []/\m=owM 0 1000 (Zbk f id most l o)):=by
 obtain⟨Y,hY⟩: ∃Y,Zbk f id most l o=Y:=⟨_,rfl⟩
 rw[hY]
 unfold Zbk at hY
 obtain⟨c,hc⟩: ∃c,decide ((l.length:Int)<=most)=c:=⟨_,rfl⟩
 rw[hc]at hY
 have hmust:=Zat o c
 have hlm:(Zy c o).b.length=o.b.length:=rfl
 generalize Zy c o=o1 at hY hmust hlm
 have hnum:True:=trivial
 have hput:True:=trivial
 by_cases h0:l.length=0
 ·rw[if_pos h0]at hY
  subst hY
  have d1:((l.length:Int)==0)=true:=beq_iff_eq.2 (by omega)
  have hone:True:=trivial
  obtain⟨b,bad⟩:=o
  obtain⟨b1,bad1⟩:=o1
  unfold owM at hmust ⊢
  simp only at hmust ⊢
  refine AM.enter Tryz.func18 rfl (Yaa rfl) (fun pn=> ?_)
  simp only[Tryz.f18]
  clear hlm hl
  have nx:=aI @hc (aI @d1 trivial)
  refine' Z0
  all_goals first|exact⟨trivial,trivial⟩|exact⟨rfl,trivial⟩|exact⟨rfl,rfl⟩|exact⟨trivial,rfl⟩|(exfalso;omega)|trace_state
 ·rw[if_neg h0]at hY
  have d1:((l.length:Int)==0)=false:=Yam.2 (by omega)
  have hnum:=Zai ⟨[],o1.bad⟩ [(l.length:Int)] (by simp only[List.length_singleton,List.length_nil];omega)
  have hln:=Zq [(l.length:Int)] ⟨[],o1.bad⟩
  simp only[List.length_singleton,List.length_nil]at hln
  obtain⟨b,bad⟩:=o
  obtain⟨b1,bad1⟩:=o1
  simp only at hY hnum hln hlm
  generalize Z9 [(l.length:Int)] ⟨[],bad1⟩=p0 at hY hnum hln
  have hrl:=Zco hsz l p0
  have hput:=fun p (h:p.b.length<=Zaa sz l+10)=>ZdW ⟨b1,bad1⟩ p id (by simp only;simp only at hl;omega)
  have hY:Zf1 id (ZbA f (l.drop 0) p0) ⟨b1,bad1⟩=Y:=hY
  have hr0:(ZbA f (l.drop 0) p0).b.length<=Zaa sz l+10:=by show(ZbA f l p0).b.length<=_;omega
  have hs0:p0.b.length+Zaa sz (l.drop 0)<=Zaa sz l+10:=by show p0.b.length+Zaa sz l<=_;omega
  unfold owM at hmust hnum hput hone
  unfold owM
  simp only[List.cons_append,List.nil_append]at hmust hput ⊢
  obtain⟨bp,badp⟩:=p0
  simp only at hnum
  refine AM.enter Tryz.func18 rfl (Yaa rfl) (fun pn=> ?_)
  simp only[Tryz.f18]
  have nx:=aI @hc (aI @d1 trivial)
  refine' Z0
  refine AW.loop [0,1,4,10,33,34,35] [0,1000,27,28000] (fun m st=> ∃(k:Nat) (p:Ow),st=ZBy pn ⟨b1,bad1⟩ p id f1 l k/\k<=l.length/\p.b.length+Zaa sz (l.drop k)<=Zaa sz l+10/\Zf1 id (ZbA f (l.drop k) p) ⟨b1,bad1⟩=Y/\m=l.length-k) ?_ ?_
  ·exact⟨_,0,⟨bp,badp⟩,rfl,Nat.zero_le _,hs0,hY,rfl⟩
  clear hmust hnum hY hs0 hr0 hrl hln
  rintro m st ⟨k,p,rfl,hk,hs,hY,rfl⟩
  have hmust:True:=trivial
  have hnum:True:=trivial
  by_cases hkl:k<l.length
  ·have dk:decide ((k:Int)<(l.length:Int))=true:=Yae (by omega)
   have e7:IntKind.i64.wrap ((k:Int)+1)=((k+1:Nat):Int):=Zc _ (by omega) (by omega)
   have hdr:l.drop k=l.getD k ⟨[],[]⟩::l.drop (k+1):=Zb7 ⟨[],[]⟩ hkl
   rw[hdr,ZbA]at hY
   rw[hdr,Zaa]at hs
   have hmem:=ZcF ⟨[],[]⟩ hkl
   have l1:=Zbr ZfM ⟨[],[]⟩ hkl
   have r1:=Zbs ZfM ⟨[],[]⟩ hkl
   generalize hx:l.getD k ⟨[],[]⟩=n at hY hs l1 hmem
   have hone:=hone n p hmem (by omega)
   have hz:=hsz n p
   have hput:True:=trivial
   generalize f n p=p2 at hY hone hz
   have hs2:p2.b.length+Zaa sz (l.drop (k+1))<=Zaa sz l+10:=by omega
   obtain⟨b4,bad4⟩:=p
   obtain⟨b5,bad5⟩:=p2
   simp only at hone
   clear hs hz hmem
   obtain⟨x1,x2⟩:=n
   simp only[ZhS]at hone l1
   have nx:=aI @dk (aI @l1 (aI @r1 (aI @e7 trivial)))
   refine' Z0
   all_goals first
    |exact⟨l.length-(k+1),by omega,k+1,⟨b5,bad5⟩,rfl,by omega,hs2,hY,rfl⟩
  ·have dk:decide ((k:Int)<(l.length:Int))=false:=Yaf (by omega)
   obtain rfl:k=l.length:=by omega
   rw[Ya7 (Nat.le_refl _),ZbA]at hY
   rw[Ya7 (Nat.le_refl _),Zaa]at hs
   have hput:=hput p (by omega)
   rw[hY]at hput
   have hone:True:=trivial
   obtain⟨b4,bad4⟩:=p
   obtain⟨bY,badY⟩:=Y
   simp only at hput
   clear hs hY hl
   have nx:=aI @dk trivial
   refine' Z0
   all_goals first|exact⟨trivial,trivial⟩|exact⟨rfl,trivial⟩|exact⟨rfl,rfl⟩|exact⟨trivial,rfl⟩|(exfalso;omega)|trace_state
end
section
def ZlC (pn:Nat->Option BI)(o p:Ow)(id:Int)(f1:FuncId)(l:List (Int×Int))(k:Nat):St:={ n:=48,slots:=[(0,.ptr 0 0),(1,.int .u8 id),(4,.fn f1 []),(10,.ptr 27 0),(33,.view l.length 2 (l.flatMap Zgv)),(34,.int .i64 (l.length:Int)),(35,.int .i64 (k:Int))],mem:=owM 0 1000 o++owM 27 28000 p,lent:=[(0,pn 0),(1000,none)] }
theorem Zr2.NM:type_of% @NSX/\type_of% @St.keepS.eq_1/\type_of% @TY/\type_of% @ZjT/\type_of% @Zb/\type_of% @owM.eq_1/\type_of% @ZlC.eq_1:=
 ⟨NSX,St.keepS.eq_1,@TY,@ZjT,@Zb,@owM.eq_1,@ZlC.eq_1⟩
open Zr2
open ZeB ZeC Zm in
theorem Zh7 (o:Ow)(id most:Int)(l:List (Int×Int)){f1:FuncId}(hcb:Za Tryz.prog f1=true){f:(Int×Int)->Ow->Ow}{sz:(Int×Int)->Nat}(hsz: ∀x p,(f x p).b.length<=p.b.length+sz x)
 (hone: ∀x p,x∈l->p.b.length+sz x<=1000000000->AM Tryz.prog f1 [.ptr 0 0,.agg (Zgv x)] (owM 0 1000 p) [0] (fun r m=>r= .tup []/\m=owM 0 1000 (f x p)))
 (hl:o.b.length+(Zaa sz l+30)<=1000000000) (hn:l.length<=1000000000) :
 AM Tryz.prog 28 [.ptr 0 0,.int .u8 id,.int .i64 most,.view l.length 2 (l.flatMap Zgv),.fn f1 []] (owM 0 1000 o) [0] (fun r m=>r= .tup []/\m=owM 0 1000 (Zbk f id most l o)):=by
 obtain⟨Y,hY⟩: ∃Y,Zbk f id most l o=Y:=⟨_,rfl⟩
 rw[hY]
 unfold Zbk at hY
 obtain⟨c,hc⟩: ∃c,decide ((l.length:Int)<=most)=c:=⟨_,rfl⟩
 rw[hc]at hY
 have hmust:=Zat o c
 have hlm:(Zy c o).b.length=o.b.length:=rfl
 generalize Zy c o=o1 at hY hmust hlm
 have hnum:True:=trivial
 have hput:True:=trivial
 by_cases h0:l.length=0
 ·rw[if_pos h0]at hY
  subst hY
  have d1:((l.length:Int)==0)=true:=beq_iff_eq.2 (by omega)
  have hone:True:=trivial
  obtain⟨b,bad⟩:=o
  obtain⟨b1,bad1⟩:=o1
  unfold owM at hmust ⊢
  simp only at hmust ⊢
  refine AM.enter Tryz.func28 rfl (Yaa rfl) (fun pn=> ?_)
  simp only[Tryz.f28]
  clear hlm hl
  have nx:=aI @hc (aI @d1 trivial)
  refine' Z0
  all_goals first|exact⟨trivial,trivial⟩|exact⟨rfl,trivial⟩|exact⟨rfl,rfl⟩|exact⟨trivial,rfl⟩|(exfalso;omega)|trace_state
 ·rw[if_neg h0]at hY
  have d1:((l.length:Int)==0)=false:=Yam.2 (by omega)
  have hnum:=Zai ⟨[],o1.bad⟩ [(l.length:Int)] (by simp only[List.length_singleton,List.length_nil];omega)
  have hln:=Zq [(l.length:Int)] ⟨[],o1.bad⟩
  simp only[List.length_singleton,List.length_nil]at hln
  obtain⟨b,bad⟩:=o
  obtain⟨b1,bad1⟩:=o1
  simp only at hY hnum hln hlm
  generalize Z9 [(l.length:Int)] ⟨[],bad1⟩=p0 at hY hnum hln
  have hrl:=Zco hsz l p0
  have hput:=fun p (h:p.b.length<=Zaa sz l+10)=>ZdW ⟨b1,bad1⟩ p id (by simp only;simp only at hl;omega)
  have hY:Zf1 id (ZbA f (l.drop 0) p0) ⟨b1,bad1⟩=Y:=hY
  have hr0:(ZbA f (l.drop 0) p0).b.length<=Zaa sz l+10:=by show(ZbA f l p0).b.length<=_;omega
  have hs0:p0.b.length+Zaa sz (l.drop 0)<=Zaa sz l+10:=by show p0.b.length+Zaa sz l<=_;omega
  unfold owM at hmust hnum hput hone
  unfold owM
  simp only[List.cons_append,List.nil_append]at hmust hput ⊢
  obtain⟨bp,badp⟩:=p0
  simp only at hnum
  refine AM.enter Tryz.func28 rfl (Yaa rfl) (fun pn=> ?_)
  simp only[Tryz.f28]
  have nx:=aI @hc (aI @d1 trivial)
  refine' Z0
  refine AW.loop [0,1,4,10,33,34,35] [0,1000,27,28000] (fun m st=> ∃(k:Nat) (p:Ow),st=ZlC pn ⟨b1,bad1⟩ p id f1 l k/\k<=l.length/\p.b.length+Zaa sz (l.drop k)<=Zaa sz l+10/\Zf1 id (ZbA f (l.drop k) p) ⟨b1,bad1⟩=Y/\m=l.length-k) ?_ ?_
  ·exact⟨_,0,⟨bp,badp⟩,rfl,Nat.zero_le _,hs0,hY,rfl⟩
  clear hmust hnum hY hs0 hr0 hrl hln
  rintro m st ⟨k,p,rfl,hk,hs,hY,rfl⟩
  have hmust:True:=trivial
  have hnum:True:=trivial
  by_cases hkl:k<l.length
  ·have dk:decide ((k:Int)<(l.length:Int))=true:=Yae (by omega)
   have e7:IntKind.i64.wrap ((k:Int)+1)=((k+1:Nat):Int):=Zc _ (by omega) (by omega)
   have hdr:l.drop k=l.getD k (0,0)::l.drop (k+1):=Zb7 (0,0) hkl
   rw[hdr,ZbA]at hY
   rw[hdr,Zaa]at hs
   have hmem:=ZcF (0,0) hkl
   have l1:=Zbr ZfO (0,0) hkl
   have r1:=Zbs ZfO (0,0) hkl
   generalize hx:l.getD k (0,0)=n at hY hs l1 hmem
   have hone:=hone n p hmem (by omega)
   have hz:=hsz n p
   have hput:True:=trivial
   generalize f n p=p2 at hY hone hz
   have hs2:p2.b.length+Zaa sz (l.drop (k+1))<=Zaa sz l+10:=by omega
   obtain⟨b4,bad4⟩:=p
   obtain⟨b5,bad5⟩:=p2
   simp only at hone
   clear hs hz hmem
   obtain⟨x1,x2⟩:=n
   simp only[Zgv]at hone l1
   have nx:=aI @dk (aI @l1 (aI @r1 (aI @e7 trivial)))
   refine' Z0
   all_goals first
    |exact⟨l.length-(k+1),by omega,k+1,⟨b5,bad5⟩,rfl,by omega,hs2,hY,rfl⟩
  ·have dk:decide ((k:Int)<(l.length:Int))=false:=Yaf (by omega)
   obtain rfl:k=l.length:=by omega
   rw[Ya7 (Nat.le_refl _),ZbA]at hY
   rw[Ya7 (Nat.le_refl _),Zaa]at hs
   have hput:=hput p (by omega)
   rw[hY]at hput
   have hone:True:=trivial
   obtain⟨b4,bad4⟩:=p
   obtain⟨bY,badY⟩:=Y
   simp only at hput
   clear hs hY hl
   have nx:=aI @dk trivial
   refine' Z0
   all_goals first|exact⟨trivial,trivial⟩|exact⟨rfl,trivial⟩|exact⟨rfl,rfl⟩|exact⟨trivial,rfl⟩|(exfalso;omega)|trace_state
end
section
def ZlD (pn:Nat->Option BI)(o p:Ow)(id:Int)(f1:FuncId)(l:List Zjy)(k:Nat):St:={ n:=48,slots:=[(0,.ptr 0 0),(1,.int .u8 id),(4,.fn f1 []),(10,.ptr 27 0),(33,.view l.length 3 (l.flatMap ZjF)),(34,.int .i64 (l.length:Int)),(35,.int .i64 (k:Int))],mem:=owM 0 1000 o++owM 27 28000 p,lent:=[(0,pn 0),(1000,none)] }
theorem Zr3.NM:type_of% @NSX/\type_of% @St.keepS.eq_1/\type_of% @TY/\type_of% @ZjT/\type_of% @Zb/\type_of% @owM.eq_1/\type_of% @ZlD.eq_1:=
 ⟨NSX,St.keepS.eq_1,@TY,@ZjT,@Zb,@owM.eq_1,@ZlD.eq_1⟩
open Zr3
open ZeB ZeC Zm in
theorem Znz (o:Ow)(id most:Int)(l:List Zjy){f1:FuncId}(hcb:Za Tryz.prog f1=true){f:Zjy->Ow->Ow}{sz:Zjy->Nat}(hsz: ∀x p,(f x p).b.length<=p.b.length+sz x)
 (hone: ∀x p,x∈l->p.b.length+sz x<=1000000000->AM Tryz.prog f1 [.ptr 0 0,.agg (ZjF x)] (owM 0 1000 p) [0] (fun r m=>r= .tup []/\m=owM 0 1000 (f x p)))
 (hl:o.b.length+(Zaa sz l+30)<=1000000000) (hn:l.length<=1000000000) :
 AM Tryz.prog 23 [.ptr 0 0,.int .u8 id,.int .i64 most,.view l.length 3 (l.flatMap ZjF),.fn f1 []] (owM 0 1000 o) [0] (fun r m=>r= .tup []/\m=owM 0 1000 (Zbk f id most l o)):=by
 obtain⟨Y,hY⟩: ∃Y,Zbk f id most l o=Y:=⟨_,rfl⟩
 rw[hY]
 unfold Zbk at hY
 obtain⟨c,hc⟩: ∃c,decide ((l.length:Int)<=most)=c:=⟨_,rfl⟩
 rw[hc]at hY
 have hmust:=Zat o c
 have hlm:(Zy c o).b.length=o.b.length:=rfl
 generalize Zy c o=o1 at hY hmust hlm
 have hnum:True:=trivial
 have hput:True:=trivial
 by_cases h0:l.length=0
 ·rw[if_pos h0]at hY
  subst hY
  have d1:((l.length:Int)==0)=true:=beq_iff_eq.2 (by omega)
  have hone:True:=trivial
  obtain⟨b,bad⟩:=o
  obtain⟨b1,bad1⟩:=o1
  unfold owM at hmust ⊢
  simp only at hmust ⊢
  refine AM.enter Tryz.func23 rfl (Yaa rfl) (fun pn=> ?_)
  simp only[Tryz.f23]
  clear hlm hl
  have nx:=aI @hc (aI @d1 trivial)
  refine' Z0
  all_goals first|exact⟨trivial,trivial⟩|exact⟨rfl,trivial⟩|exact⟨rfl,rfl⟩|exact⟨trivial,rfl⟩|(exfalso;omega)|trace_state
 ·rw[if_neg h0]at hY
  have d1:((l.length:Int)==0)=false:=Yam.2 (by omega)
  have hnum:=Zai ⟨[],o1.bad⟩ [(l.length:Int)] (by simp only[List.length_singleton,List.length_nil];omega)
  have hln:=Zq [(l.length:Int)] ⟨[],o1.bad⟩
  simp only[List.length_singleton,List.length_nil]at hln
  obtain⟨b,bad⟩:=o
  obtain⟨b1,bad1⟩:=o1
  simp only at hY hnum hln hlm
  generalize Z9 [(l.length:Int)] ⟨[],bad1⟩=p0 at hY hnum hln
  have hrl:=Zco hsz l p0
  have hput:=fun p (h:p.b.length<=Zaa sz l+10)=>ZdW ⟨b1,bad1⟩ p id (by simp only;simp only at hl;omega)
  have hY:Zf1 id (ZbA f (l.drop 0) p0) ⟨b1,bad1⟩=Y:=hY
  have hr0:(ZbA f (l.drop 0) p0).b.length<=Zaa sz l+10:=by show(ZbA f l p0).b.length<=_;omega
  have hs0:p0.b.length+Zaa sz (l.drop 0)<=Zaa sz l+10:=by show p0.b.length+Zaa sz l<=_;omega
  unfold owM at hmust hnum hput hone
  unfold owM
  simp only[List.cons_append,List.nil_append]at hmust hput ⊢
  obtain⟨bp,badp⟩:=p0
  simp only at hnum
  refine AM.enter Tryz.func23 rfl (Yaa rfl) (fun pn=> ?_)
  simp only[Tryz.f23]
  have nx:=aI @hc (aI @d1 trivial)
  refine' Z0
  refine AW.loop [0,1,4,10,33,34,35] [0,1000,27,28000] (fun m st=> ∃(k:Nat) (p:Ow),st=ZlD pn ⟨b1,bad1⟩ p id f1 l k/\k<=l.length/\p.b.length+Zaa sz (l.drop k)<=Zaa sz l+10/\Zf1 id (ZbA f (l.drop k) p) ⟨b1,bad1⟩=Y/\m=l.length-k) ?_ ?_
  ·exact⟨_,0,⟨bp,badp⟩,rfl,Nat.zero_le _,hs0,hY,rfl⟩
  clear hmust hnum hY hs0 hr0 hrl hln
  rintro m st ⟨k,p,rfl,hk,hs,hY,rfl⟩
  have hmust:True:=trivial
  have hnum:True:=trivial
  by_cases hkl:k<l.length
  ·have dk:decide ((k:Int)<(l.length:Int))=true:=Yae (by omega)
   have e7:IntKind.i64.wrap ((k:Int)+1)=((k+1:Nat):Int):=Zc _ (by omega) (by omega)
   have hdr:l.drop k=l.getD k ⟨[],[],0⟩::l.drop (k+1):=Zb7 ⟨[],[],0⟩ hkl
   rw[hdr,ZbA]at hY
   rw[hdr,Zaa]at hs
   have hmem:=ZcF ⟨[],[],0⟩ hkl
   have l1:=Zbr ZfN ⟨[],[],0⟩ hkl
   have r1:=Zbs ZfN ⟨[],[],0⟩ hkl
   generalize hx:l.getD k ⟨[],[],0⟩=n at hY hs l1 hmem
   have hone:=hone n p hmem (by omega)
   have hz:=hsz n p
   have hput:True:=trivial
   generalize f n p=p2 at hY hone hz
   have hs2:p2.b.length+Zaa sz (l.drop (k+1))<=Zaa sz l+10:=by omega
   obtain⟨b4,bad4⟩:=p
   obtain⟨b5,bad5⟩:=p2
   simp only at hone
   clear hs hz hmem
   obtain⟨x1,x2,x3⟩:=n
   simp only[ZjF]at hone l1
   have nx:=aI @dk (aI @l1 (aI @r1 (aI @e7 trivial)))
   refine' Z0
   all_goals first
    |exact⟨l.length-(k+1),by omega,k+1,⟨b5,bad5⟩,rfl,by omega,hs2,hY,rfl⟩
  ·have dk:decide ((k:Int)<(l.length:Int))=false:=Yaf (by omega)
   obtain rfl:k=l.length:=by omega
   rw[Ya7 (Nat.le_refl _),ZbA]at hY
   rw[Ya7 (Nat.le_refl _),Zaa]at hs
   have hput:=hput p (by omega)
   rw[hY]at hput
   have hone:True:=trivial
   obtain⟨b4,bad4⟩:=p
   obtain⟨bY,badY⟩:=Y
   simp only at hput
   clear hs hY hl
   have nx:=aI @dk trivial
   refine' Z0
   all_goals first|exact⟨trivial,trivial⟩|exact⟨rfl,trivial⟩|exact⟨rfl,rfl⟩|exact⟨trivial,rfl⟩|(exfalso;omega)|trace_state
end
section
def ZlE (pn:Nat->Option BI)(o p:Ow)(id:Int)(f1:FuncId)(l:List ZdV)(k:Nat):St:={ n:=48,slots:=[(0,.ptr 0 0),(1,.int .u8 id),(4,.fn f1 []),(10,.ptr 27 0),(33,.view l.length 3 (l.flatMap Zde)),(34,.int .i64 (l.length:Int)),(35,.int .i64 (k:Int))],mem:=owM 0 1000 o++owM 27 28000 p,lent:=[(0,pn 0),(1000,none)] }
theorem Zr4.NM:type_of% @NSX/\type_of% @St.keepS.eq_1/\type_of% @TY/\type_of% @ZjT/\type_of% @Zb/\type_of% @owM.eq_1/\type_of% @ZlE.eq_1:=
 ⟨NSX,St.keepS.eq_1,@TY,@ZjT,@Zb,@owM.eq_1,@ZlE.eq_1⟩
open Zr4
open ZeB ZeC Zm in
theorem ZnA (o:Ow)(id most:Int)(l:List ZdV){f1:FuncId}(hcb:Za Tryz.prog f1=true){f:ZdV->Ow->Ow}{sz:ZdV->Nat}(hsz: ∀x p,(f x p).b.length<=p.b.length+sz x)
 (hone: ∀x p,x∈l->p.b.length+sz x<=1000000000->AM Tryz.prog f1 [.ptr 0 0,.agg (Zde x)] (owM 0 1000 p) [0] (fun r m=>r= .tup []/\m=owM 0 1000 (f x p)))
 (hl:o.b.length+(Zaa sz l+30)<=1000000000) (hn:l.length<=1000000000) :
 AM Tryz.prog 32 [.ptr 0 0,.int .u8 id,.int .i64 most,.view l.length 3 (l.flatMap Zde),.fn f1 []] (owM 0 1000 o) [0] (fun r m=>r= .tup []/\m=owM 0 1000 (Zbk f id most l o)):=by
 obtain⟨Y,hY⟩: ∃Y,Zbk f id most l o=Y:=⟨_,rfl⟩
 rw[hY]
 unfold Zbk at hY
 obtain⟨c,hc⟩: ∃c,decide ((l.length:Int)<=most)=c:=⟨_,rfl⟩
 rw[hc]at hY
 have hmust:=Zat o c
 have hlm:(Zy c o).b.length=o.b.length:=rfl
 generalize Zy c o=o1 at hY hmust hlm
 have hnum:True:=trivial
 have hput:True:=trivial
 by_cases h0:l.length=0
 ·rw[if_pos h0]at hY
  subst hY
  have d1:((l.length:Int)==0)=true:=beq_iff_eq.2 (by omega)
  have hone:True:=trivial
  obtain⟨b,bad⟩:=o
  obtain⟨b1,bad1⟩:=o1
  unfold owM at hmust ⊢
  simp only at hmust ⊢
  refine AM.enter Tryz.func32 rfl (Yaa rfl) (fun pn=> ?_)
  simp only[Tryz.f32]
  clear hlm hl
  have nx:=aI @hc (aI @d1 trivial)
  refine' Z0
  all_goals first|exact⟨trivial,trivial⟩|exact⟨rfl,trivial⟩|exact⟨rfl,rfl⟩|exact⟨trivial,rfl⟩|(exfalso;omega)|trace_state
 ·rw[if_neg h0]at hY
  have d1:((l.length:Int)==0)=false:=Yam.2 (by omega)
  have hnum:=Zai ⟨[],o1.bad⟩ [(l.length:Int)] (by simp only[List.length_singleton,List.length_nil];omega)
  have hln:=Zq [(l.length:Int)] ⟨[],o1.bad⟩
  simp only[List.length_singleton,List.length_nil]at hln
  obtain⟨b,bad⟩:=o
  obtain⟨b1,bad1⟩:=o1
  simp only at hY hnum hln hlm
  generalize Z9 [(l.length:Int)] ⟨[],bad1⟩=p0 at hY hnum hln
  have hrl:=Zco hsz l p0
  have hput:=fun p (h:p.b.length<=Zaa sz l+10)=>ZdW ⟨b1,bad1⟩ p id (by simp only;simp only at hl;omega)
  have hY:Zf1 id (ZbA f (l.drop 0) p0) ⟨b1,bad1⟩=Y:=hY
  have hr0:(ZbA f (l.drop 0) p0).b.length<=Zaa sz l+10:=by show(ZbA f l p0).b.length<=_;omega
  have hs0:p0.b.length+Zaa sz (l.drop 0)<=Zaa sz l+10:=by show p0.b.length+Zaa sz l<=_;omega
  unfold owM at hmust hnum hput hone
  unfold owM
  simp only[List.cons_append,List.nil_append]at hmust hput ⊢
  obtain⟨bp,badp⟩:=p0
  simp only at hnum
  refine AM.enter Tryz.func32 rfl (Yaa rfl) (fun pn=> ?_)
  simp only[Tryz.f32]
  have nx:=aI @hc (aI @d1 trivial)
  refine' Z0
  refine AW.loop [0,1,4,10,33,34,35] [0,1000,27,28000] (fun m st=> ∃(k:Nat) (p:Ow),st=ZlE pn ⟨b1,bad1⟩ p id f1 l k/\k<=l.length/\p.b.length+Zaa sz (l.drop k)<=Zaa sz l+10/\Zf1 id (ZbA f (l.drop k) p) ⟨b1,bad1⟩=Y/\m=l.length-k) ?_ ?_
  ·exact⟨_,0,⟨bp,badp⟩,rfl,Nat.zero_le _,hs0,hY,rfl⟩
  clear hmust hnum hY hs0 hr0 hrl hln
  rintro m st ⟨k,p,rfl,hk,hs,hY,rfl⟩
  have hmust:True:=trivial
  have hnum:True:=trivial
  by_cases hkl:k<l.length
  ·have dk:decide ((k:Int)<(l.length:Int))=true:=Yae (by omega)
   have e7:IntKind.i64.wrap ((k:Int)+1)=((k+1:Nat):Int):=Zc _ (by omega) (by omega)
   have hdr:l.drop k=l.getD k ⟨0,false,[]⟩::l.drop (k+1):=Zb7 ⟨0,false,[]⟩ hkl
   rw[hdr,ZbA]at hY
   rw[hdr,Zaa]at hs
   have hmem:=ZcF ⟨0,false,[]⟩ hkl
   have l1:=Zbr Zfp ⟨0,false,[]⟩ hkl
   have r1:=Zbs Zfp ⟨0,false,[]⟩ hkl
   generalize hx:l.getD k ⟨0,false,[]⟩=n at hY hs l1 hmem
   have hone:=hone n p hmem (by omega)
   have hz:=hsz n p
   have hput:True:=trivial
   generalize f n p=p2 at hY hone hz
   have hs2:p2.b.length+Zaa sz (l.drop (k+1))<=Zaa sz l+10:=by omega
   obtain⟨b4,bad4⟩:=p
   obtain⟨b5,bad5⟩:=p2
   simp only at hone
   clear hs hz hmem
   obtain⟨x1,x2,x3⟩:=n
   simp only[Zde]at hone l1
   have nx:=aI @dk (aI @l1 (aI @r1 (aI @e7 trivial)))
   refine' Z0
   all_goals first
    |exact⟨l.length-(k+1),by omega,k+1,⟨b5,bad5⟩,rfl,by omega,hs2,hY,rfl⟩
  ·have dk:decide ((k:Int)<(l.length:Int))=false:=Yaf (by omega)
   obtain rfl:k=l.length:=by omega
   rw[Ya7 (Nat.le_refl _),ZbA]at hY
   rw[Ya7 (Nat.le_refl _),Zaa]at hs
   have hput:=hput p (by omega)
   rw[hY]at hput
   have hone:True:=trivial
   obtain⟨b4,bad4⟩:=p
   obtain⟨bY,badY⟩:=Y
   simp only at hput
   clear hs hY hl
   have nx:=aI @dk trivial
   refine' Z0
   all_goals first|exact⟨trivial,trivial⟩|exact⟨rfl,trivial⟩|exact⟨rfl,rfl⟩|exact⟨trivial,rfl⟩|(exfalso;omega)|trace_state
end
section
def ZlF (pn:Nat->Option BI)(o p:Ow)(id:Int)(f1:FuncId)(l:List Zjz)(k:Nat):St:={ n:=48,slots:=[(0,.ptr 0 0),(1,.int .u8 id),(4,.fn f1 []),(10,.ptr 27 0),(33,.view l.length 3 (l.flatMap ZjG)),(34,.int .i64 (l.length:Int)),(35,.int .i64 (k:Int))],mem:=owM 0 1000 o++owM 27 28000 p,lent:=[(0,pn 0),(1000,none)] }
theorem Zr5.NM:type_of% @NSX/\type_of% @St.keepS.eq_1/\type_of% @TY/\type_of% @ZjT/\type_of% @Zb/\type_of% @owM.eq_1/\type_of% @ZlF.eq_1:=
 ⟨NSX,St.keepS.eq_1,@TY,@ZjT,@Zb,@owM.eq_1,@ZlF.eq_1⟩
open Zr5
open ZeB ZeC Zm in
theorem ZnB (o:Ow)(id most:Int)(l:List Zjz){f1:FuncId}(hcb:Za Tryz.prog f1=true){f:Zjz->Ow->Ow}{sz:Zjz->Nat}(hsz: ∀x p,(f x p).b.length<=p.b.length+sz x)
 (hone: ∀x p,x∈l->p.b.length+sz x<=1000000000->AM Tryz.prog f1 [.ptr 0 0,.agg (ZjG x)] (owM 0 1000 p) [0] (fun r m=>r= .tup []/\m=owM 0 1000 (f x p)))
 (hl:o.b.length+(Zaa sz l+30)<=1000000000) (hn:l.length<=1000000000) :
 AM Tryz.prog 34 [.ptr 0 0,.int .u8 id,.int .i64 most,.view l.length 3 (l.flatMap ZjG),.fn f1 []] (owM 0 1000 o) [0] (fun r m=>r= .tup []/\m=owM 0 1000 (Zbk f id most l o)):=by
 obtain⟨Y,hY⟩: ∃Y,Zbk f id most l o=Y:=⟨_,rfl⟩
 rw[hY]
 unfold Zbk at hY
 obtain⟨c,hc⟩: ∃c,decide ((l.length:Int)<=most)=c:=⟨_,rfl⟩
 rw[hc]at hY
 have hmust:=Zat o c
 have hlm:(Zy c o).b.length=o.b.length:=rfl
 generalize Zy c o=o1 at hY hmust hlm
 have hnum:True:=trivial
 have hput:True:=trivial
 by_cases h0:l.length=0
 ·rw[if_pos h0]at hY
  subst hY
  have d1:((l.length:Int)==0)=true:=beq_iff_eq.2 (by omega)
  have hone:True:=trivial
  obtain⟨b,bad⟩:=o
  obtain⟨b1,bad1⟩:=o1
  unfold owM at hmust ⊢
  simp only at hmust ⊢
  refine AM.enter Tryz.func34 rfl (Yaa rfl) (fun pn=> ?_)
  simp only[Tryz.f34]
  clear hlm hl
  have nx:=aI @hc (aI @d1 trivial)
  refine' Z0
  all_goals first|exact⟨trivial,trivial⟩|exact⟨rfl,trivial⟩|exact⟨rfl,rfl⟩|exact⟨trivial,rfl⟩|(exfalso;omega)|trace_state
 ·rw[if_neg h0]at hY
  have d1:((l.length:Int)==0)=false:=Yam.2 (by omega)
  have hnum:=Zai ⟨[],o1.bad⟩ [(l.length:Int)] (by simp only[List.length_singleton,List.length_nil];omega)
  have hln:=Zq [(l.length:Int)] ⟨[],o1.bad⟩
  simp only[List.length_singleton,List.length_nil]at hln
  obtain⟨b,bad⟩:=o
  obtain⟨b1,bad1⟩:=o1
  simp only at hY hnum hln hlm
  generalize Z9 [(l.length:Int)] ⟨[],bad1⟩=p0 at hY hnum hln
  have hrl:=Zco hsz l p0
  have hput:=fun p (h:p.b.length<=Zaa sz l+10)=>ZdW ⟨b1,bad1⟩ p id (by simp only;simp only at hl;omega)
  have hY:Zf1 id (ZbA f (l.drop 0) p0) ⟨b1,bad1⟩=Y:=hY
  have hr0:(ZbA f (l.drop 0) p0).b.length<=Zaa sz l+10:=by show(ZbA f l p0).b.length<=_;omega
  have hs0:p0.b.length+Zaa sz (l.drop 0)<=Zaa sz l+10:=by show p0.b.length+Zaa sz l<=_;omega
  unfold owM at hmust hnum hput hone
  unfold owM
  simp only[List.cons_append,List.nil_append]at hmust hput ⊢
  obtain⟨bp,badp⟩:=p0
  simp only at hnum
  refine AM.enter Tryz.func34 rfl (Yaa rfl) (fun pn=> ?_)
  simp only[Tryz.f34]
  have nx:=aI @hc (aI @d1 trivial)
  refine' Z0
  refine AW.loop [0,1,4,10,33,34,35] [0,1000,27,28000] (fun m st=> ∃(k:Nat) (p:Ow),st=ZlF pn ⟨b1,bad1⟩ p id f1 l k/\k<=l.length/\p.b.length+Zaa sz (l.drop k)<=Zaa sz l+10/\Zf1 id (ZbA f (l.drop k) p) ⟨b1,bad1⟩=Y/\m=l.length-k) ?_ ?_
  ·exact⟨_,0,⟨bp,badp⟩,rfl,Nat.zero_le _,hs0,hY,rfl⟩
  clear hmust hnum hY hs0 hr0 hrl hln
  rintro m st ⟨k,p,rfl,hk,hs,hY,rfl⟩
  have hmust:True:=trivial
  have hnum:True:=trivial
  by_cases hkl:k<l.length
  ·have dk:decide ((k:Int)<(l.length:Int))=true:=Yae (by omega)
   have e7:IntKind.i64.wrap ((k:Int)+1)=((k+1:Nat):Int):=Zc _ (by omega) (by omega)
   have hdr:l.drop k=l.getD k ⟨[],0,0⟩::l.drop (k+1):=Zb7 ⟨[],0,0⟩ hkl
   rw[hdr,ZbA]at hY
   rw[hdr,Zaa]at hs
   have hmem:=ZcF ⟨[],0,0⟩ hkl
   have l1:=Zbr ZfP ⟨[],0,0⟩ hkl
   have r1:=Zbs ZfP ⟨[],0,0⟩ hkl
   generalize hx:l.getD k ⟨[],0,0⟩=n at hY hs l1 hmem
   have hone:=hone n p hmem (by omega)
   have hz:=hsz n p
   have hput:True:=trivial
   generalize f n p=p2 at hY hone hz
   have hs2:p2.b.length+Zaa sz (l.drop (k+1))<=Zaa sz l+10:=by omega
   obtain⟨b4,bad4⟩:=p
   obtain⟨b5,bad5⟩:=p2
   simp only at hone
   clear hs hz hmem
   obtain⟨x1,x2,x3⟩:=n
   simp only[ZjG]at hone l1
   have nx:=aI @dk (aI @l1 (aI @r1 (aI @e7 trivial)))
   refine' Z0
   all_goals first
    |exact⟨l.length-(k+1),by omega,k+1,⟨b5,bad5⟩,rfl,by omega,hs2,hY,rfl⟩
  ·have dk:decide ((k:Int)<(l.length:Int))=false:=Yaf (by omega)
   obtain rfl:k=l.length:=by omega
   rw[Ya7 (Nat.le_refl _),ZbA]at hY
   rw[Ya7 (Nat.le_refl _),Zaa]at hs
   have hput:=hput p (by omega)
   rw[hY]at hput
   have hone:True:=trivial
   obtain⟨b4,bad4⟩:=p
   obtain⟨bY,badY⟩:=Y
   simp only at hput
   clear hs hY hl
   have nx:=aI @dk trivial
   refine' Z0
   all_goals first|exact⟨trivial,trivial⟩|exact⟨rfl,trivial⟩|exact⟨rfl,rfl⟩|exact⟨trivial,rfl⟩|(exfalso;omega)|trace_state
end
section
def Zv6 (pn:Nat->Option BI)(o p:Ow)(id:Int)(f1:FuncId)(l:List ZcS)(k:Nat):St:={ n:=48,slots:=[(0,.ptr 0 0),(1,.int .u8 id),(4,.fn f1 []),(10,.ptr 27 0),(33,.view l.length 2 (l.flatMap ZcW)),(34,.int .i64 (l.length:Int)),(35,.int .i64 (k:Int))],mem:=owM 0 1000 o++owM 27 28000 p,lent:=[(0,pn 0),(1000,none)] }
theorem Zy2.NM:type_of% @NSX/\type_of% @St.keepS.eq_1/\type_of% @TY/\type_of% @ZjT/\type_of% @Zb/\type_of% @owM.eq_1/\type_of% @Zv6.eq_1:=
 ⟨NSX,St.keepS.eq_1,@TY,@ZjT,@Zb,@owM.eq_1,@Zv6.eq_1⟩
open Zy2
open ZeB ZeC Zm in
theorem Zr6 (o:Ow)(id most:Int)(l:List ZcS){f1:FuncId}(hcb:Za Tryz.prog f1=true){f:ZcS->Ow->Ow}{sz:ZcS->Nat}(hsz: ∀x p,(f x p).b.length<=p.b.length+sz x)
 (hone: ∀x p,x∈l->p.b.length+sz x<=1000000000->AM Tryz.prog f1 [.ptr 0 0,.agg (ZcW x)] (owM 0 1000 p) [0] (fun r m=>r= .tup []/\m=owM 0 1000 (f x p)))
 (hl:o.b.length+(Zaa sz l+30)<=1000000000) (hn:l.length<=1000000000) :
 AM Tryz.prog 37 [.ptr 0 0,.int .u8 id,.int .i64 most,.view l.length 2 (l.flatMap ZcW),.fn f1 []] (owM 0 1000 o) [0] (fun r m=>r= .tup []/\m=owM 0 1000 (Zbk f id most l o)):=by
 obtain⟨Y,hY⟩: ∃Y,Zbk f id most l o=Y:=⟨_,rfl⟩
 rw[hY]
 unfold Zbk at hY
 obtain⟨c,hc⟩: ∃c,decide ((l.length:Int)<=most)=c:=⟨_,rfl⟩
 rw[hc]at hY
 have hmust:=Zat o c
 have hlm:(Zy c o).b.length=o.b.length:=rfl
 generalize Zy c o=o1 at hY hmust hlm
 have hnum:True:=trivial
 have hput:True:=trivial
 by_cases h0:l.length=0
 ·rw[if_pos h0]at hY
  subst hY
  have d1:((l.length:Int)==0)=true:=beq_iff_eq.2 (by omega)
  have hone:True:=trivial
  obtain⟨b,bad⟩:=o
  obtain⟨b1,bad1⟩:=o1
  unfold owM at hmust ⊢
  simp only at hmust ⊢
  refine AM.enter Tryz.func37 rfl (Yaa rfl) (fun pn=> ?_)
  simp only[Tryz.f37]
  clear hlm hl
  have nx:=aI @hc (aI @d1 trivial)
  refine' Z0
  all_goals first|exact⟨trivial,trivial⟩|exact⟨rfl,trivial⟩|exact⟨rfl,rfl⟩|exact⟨trivial,rfl⟩|(exfalso;omega)|trace_state
 ·rw[if_neg h0]at hY
  have d1:((l.length:Int)==0)=false:=Yam.2 (by omega)
  have hnum:=Zai ⟨[],o1.bad⟩ [(l.length:Int)] (by simp only[List.length_singleton,List.length_nil];omega)
  have hln:=Zq [(l.length:Int)] ⟨[],o1.bad⟩
  simp only[List.length_singleton,List.length_nil]at hln
  obtain⟨b,bad⟩:=o
  obtain⟨b1,bad1⟩:=o1
  simp only at hY hnum hln hlm
  generalize Z9 [(l.length:Int)] ⟨[],bad1⟩=p0 at hY hnum hln
  have hrl:=Zco hsz l p0
  have hput:=fun p (h:p.b.length<=Zaa sz l+10)=>ZdW ⟨b1,bad1⟩ p id (by simp only;simp only at hl;omega)
  have hY:Zf1 id (ZbA f (l.drop 0) p0) ⟨b1,bad1⟩=Y:=hY
  have hr0:(ZbA f (l.drop 0) p0).b.length<=Zaa sz l+10:=by show(ZbA f l p0).b.length<=_;omega
  have hs0:p0.b.length+Zaa sz (l.drop 0)<=Zaa sz l+10:=by show p0.b.length+Zaa sz l<=_;omega
  unfold owM at hmust hnum hput hone
  unfold owM
  simp only[List.cons_append,List.nil_append]at hmust hput ⊢
  obtain⟨bp,badp⟩:=p0
  simp only at hnum
  refine AM.enter Tryz.func37 rfl (Yaa rfl) (fun pn=> ?_)
  simp only[Tryz.f37]
  have nx:=aI @hc (aI @d1 trivial)
  refine' Z0
  refine AW.loop [0,1,4,10,33,34,35] [0,1000,27,28000] (fun m st=> ∃(k:Nat) (p:Ow),st=Zv6 pn ⟨b1,bad1⟩ p id f1 l k/\k<=l.length/\p.b.length+Zaa sz (l.drop k)<=Zaa sz l+10/\Zf1 id (ZbA f (l.drop k) p) ⟨b1,bad1⟩=Y/\m=l.length-k) ?_ ?_
  ·exact⟨_,0,⟨bp,badp⟩,rfl,Nat.zero_le _,hs0,hY,rfl⟩
  clear hmust hnum hY hs0 hr0 hrl hln
  rintro m st ⟨k,p,rfl,hk,hs,hY,rfl⟩
  have hmust:True:=trivial
  have hnum:True:=trivial
  by_cases hkl:k<l.length
  ·have dk:decide ((k:Int)<(l.length:Int))=true:=Yae (by omega)
   have e7:IntKind.i64.wrap ((k:Int)+1)=((k+1:Nat):Int):=Zc _ (by omega) (by omega)
   have hdr:l.drop k=l.getD k ⟨[],[]⟩::l.drop (k+1):=Zb7 ⟨[],[]⟩ hkl
   rw[hdr,ZbA]at hY
   rw[hdr,Zaa]at hs
   have hmem:=ZcF ⟨[],[]⟩ hkl
   have l1:=Zbr Zfq ⟨[],[]⟩ hkl
   have r1:=Zbs Zfq ⟨[],[]⟩ hkl
   generalize hx:l.getD k ⟨[],[]⟩=n at hY hs l1 hmem
   have hone:=hone n p hmem (by omega)
   have hz:=hsz n p
   have hput:True:=trivial
   generalize f n p=p2 at hY hone hz
   have hs2:p2.b.length+Zaa sz (l.drop (k+1))<=Zaa sz l+10:=by omega
   obtain⟨b4,bad4⟩:=p
   obtain⟨b5,bad5⟩:=p2
   simp only at hone
   clear hs hz hmem
   obtain⟨x1,x2⟩:=n
   simp only[ZcW]at hone l1
   have nx:=aI @dk (aI @l1 (aI @r1 (aI @e7 trivial)))
   refine' Z0
   all_goals first
    |exact⟨l.length-(k+1),by omega,k+1,⟨b5,bad5⟩,rfl,by omega,hs2,hY,rfl⟩
  ·have dk:decide ((k:Int)<(l.length:Int))=false:=Yaf (by omega)
   obtain rfl:k=l.length:=by omega
   rw[Ya7 (Nat.le_refl _),ZbA]at hY
   rw[Ya7 (Nat.le_refl _),Zaa]at hs
   have hput:=hput p (by omega)
   rw[hY]at hput
   have hone:True:=trivial
   obtain⟨b4,bad4⟩:=p
   obtain⟨bY,badY⟩:=Y
   simp only at hput
   clear hs hY hl
   have nx:=aI @dk trivial
   refine' Z0
   all_goals first|exact⟨trivial,trivial⟩|exact⟨rfl,trivial⟩|exact⟨rfl,rfl⟩|exact⟨trivial,rfl⟩|(exfalso;omega)|trace_state
end
end Go.Proofs.YtimhmpdfioihlaaGreatDoor
