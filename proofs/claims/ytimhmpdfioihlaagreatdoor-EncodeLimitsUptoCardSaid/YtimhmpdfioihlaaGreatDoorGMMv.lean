/- The writer: a body. -/
import Derived.Test.YtimhmpdfioihlaaGreatDoorDP
import Derived.Test.YtimhmpdfioihlaaGreatDoorGPreV
import Derived.Test.YtimhmpdfioihlaaGreatDoorGV6
import Derived.Test.YtimhmpdfioihlaaGreatDoorGCB
import Derived.Test.YtimhmpdfioihlaaGreatDoorGEN6
import Derived.Test.YtimhmpdfioihlaaGreatDoorGLook
import Derived.Test.YtimhmpdfioihlaaGreatDoorGENCi
import Derived.Test.YtimhmpdfioihlaaGreatDoorGRowInt
set_option linter.unusedSimpArgs false
set_option linter.unusedVariables false
set_option maxHeartbeats 12800000
namespace Go.Proofs.YtimhmpdfioihlaaGreatDoor
set_option maxRecDepth 20000
open Go Go.Abs Nat
attribute [local irreducible] AW AWL AC FW CW CWr IntKind.wrap
section
def Zf8 (l:List Int):Nat->Nat
 |0=>0
 |k+1=>Zf8 l k+(if k=0\/l.getD k 0≠l.getD (k-1) 0 then 1 else 0)
theorem Zo0 (l:List Int): ∀k,Zf8 l k<=k
 |0=>Nat.le_refl _
 |k+1=>by
  have:=Zo0 l k
  rw[Zf8]
  split<;>omega
def Zz (x:Int):List Int->Nat
 |[]=>0
 |y::l=>if y=x then Zz x l+1 else 0
theorem Zee (x:Int): ∀l,Zz x l<=l.length
 |[]=>Nat.le_refl _
 |y::l=>by
  have:=Zee x l
  rw[Zz,Yag]
  split<;>omega
def Zft:Nat->List Int->Ow->Ow
 |0,_,q=>q
 |_+1,[],q=>q
 |f+1,x::l,q=>Zft f (l.drop (Zz x l)) (ZbI [x] (Z9 [((Zz x l+1:Nat):Int)] q))
def Ze4 (x:Zb8)(o:Ow):Ow:=
 Z6 (ZeQ x.c (Zft x.l.length x.l (Z9 [(Zf8 x.l x.l.length:Int)] ⟨[],false⟩))).b (Z9 [((ZeQ x.c (Zft x.l.length x.l (Z9 [(Zf8 x.l x.l.length:Int)] ⟨[],false⟩))).b.length:Int)] (Zy (!(ZeQ x.c (Zft x.l.length x.l (Z9 [(Zf8 x.l x.l.length:Int)] ⟨[],false⟩))).bad) (Zy (decide ((x.l.length:Int)<=512)) o)))
def C1 (pn:Nat->Option BI)(o q:Ow)(l:List Int)(cd:List Ins)(k c:Nat):St:={ n:=121,slots:=[(0,.ptr 0 0),(3,.ptr 3 0),(4,.ptr 16 0),(5,.int .i64 (c:Int)),(19,.int .i64 (l.length:Int)),(20,.int .i64 (k:Int))],mem:=owM 0 1000 o++((3,⟨false,[.view l.length 1 (Zi .i64 l),.view cd.length 6 (Zap cd)]⟩)::owM 16 17000 q),lent:=[(0,pn 0),(1000,none)] }
def C2 (pn:Nat->Option BI)(o q:Ow)(l:List Int)(cd:List Ins)(i:Nat):St:={ n:=121,slots:=[(0,.ptr 0 0),(3,.ptr 3 0),(4,.ptr 16 0),(7,.int .i64 (i:Int))],mem:=owM 0 1000 o++((3,⟨false,[.view l.length 1 (Zi .i64 l),.view cd.length 6 (Zap cd)]⟩)::owM 16 17000 q),lent:=[(0,pn 0),(1000,none)] }
def C3 (pn:Nat->Option BI)(o q:Ow)(l:List Int)(cd:List Ins)(i n:Nat):St:={ n:=121,slots:=[(0,.ptr 0 0),(3,.ptr 3 0),(4,.ptr 16 0),(7,.int .i64 (i:Int)),(8,.int .i64 (n:Int))],mem:=owM 0 1000 o++((3,⟨false,[.view l.length 1 (Zi .i64 l),.view cd.length 6 (Zap cd)]⟩)::owM 16 17000 q),lent:=[(0,pn 0),(1000,none)] }
theorem ZF1.NM:type_of% @NSX/\type_of% @St.keepS.eq_1/\type_of% @TY/\type_of% @ZjT/\type_of% @Zb/\type_of% @owM.eq_1/\type_of% @Z6.eq_1/\type_of% @C1.eq_1/\type_of% @C2.eq_1/\type_of% @C3.eq_1:=
 ⟨NSX,St.keepS.eq_1,@TY,@ZjT,@Zb,@owM.eq_1,@Z6.eq_1,@C1.eq_1,@C2.eq_1,@C3.eq_1⟩
open ZF1
theorem ZAe.kp:type_of% (@Z2 [0,1,3,4,5,6,7,8,19,20]):= @Z2 [0,1,3,4,5,6,7,8,19,20]
theorem ZAe.cl {p:Prop}(h:p:=by
 first
  |refine AWL.cM (f:=17) [(0,0),(1000,1000)] Zrv rfl rfl rfl rfl rfl rfl rfl (hmust) ?_
  |refine AWL.cM (f:=21) [(0,16),(1000,17000)] Zp8 rfl rfl rfl rfl rfl rfl rfl (hnum) ?_
  |refine AWL.cM (f:=22) [(0,16),(1000,17000)] ZEh rfl rfl rfl rfl rfl rfl rfl (hkind) ?_
  |refine AWL.cM (f:=39) [(0,16),(1000,17000)] ZEi rfl rfl rfl rfl rfl rfl rfl (hexpr) ?_
  |refine AWL.cM (f:=17) [(0,0),(1000,1000)] Zrv rfl rfl rfl rfl rfl rfl rfl (hmust2) ?_
  |refine AWL.cM (f:=21) [(0,0),(1000,1000)] Zp8 rfl rfl rfl rfl rfl rfl rfl (hnum2) ?_
  |refine AWL.frzG rfl rfl rfl ?_
 all_goals(apply_rules (newGoals:= .nonDependentOnly) only[dep];exact())):p:=h
open ZAe ZuF Zm in
theorem ZrY (o:Ow)(x:Zb8)(hw:Zvy x.c)(hl:o.b.length+((Zw x.c).1.length+11*x.l.length+100)<=1000000000):AM Tryz.prog 41 [.ptr 0 0,.agg (ZjH x)] (owM 0 1000 o) [0] (fun r m=>r= .tup []/\m=owM 0 1000 (Ze4 x o)):=by
 obtain⟨Y,hY⟩: ∃Y,Ze4 x o=Y:=⟨_,rfl⟩
 rw[hY]
 unfold Ze4 at hY
 obtain⟨l,cd⟩:=x
 simp only at hw hl hY
 obtain⟨c,hc⟩: ∃c,decide ((l.length:Int)<=512)=c:=⟨_,rfl⟩
 have hmust:=Zat o c
 have hlm:(Zy c o).b.length=o.b.length:=rfl
 rw[hc]at hY
 generalize Zy c o=o1 at hmust hlm hY
 have hnum:True:=trivial
 have hkind:True:=trivial
 have hexpr:True:=trivial
 have hmust2:True:=trivial
 have hnum2:True:=trivial
 obtain⟨b,bad⟩:=o
 obtain⟨b1,bad1⟩:=o1
 unfold owM at hmust
 unfold owM
 simp only[ZjH]at hl hmust ⊢
 refine AM.enter Tryz.func41 rfl (Yaa rfl) (fun pn=> ?_)
 simp only[Tryz.f41]
 have nx:=aI @hc trivial
 refine' ZxO
 refine AW.loop [0,3,4,5,19,20] [0,1000,3,16,17000] (fun m st=> ∃k:Nat,st=C1 pn ⟨b1,bad1⟩ ⟨[],false⟩ l cd k (Zf8 l k)/\k<=l.length/\m=l.length-k) ?_ ?_
 ·exact⟨_,0,rfl,Nat.zero_le _,rfl⟩
 clear hmust
 have hmust:True:=trivial
 rintro m st ⟨k,rfl,hk,rfl⟩
 by_cases hkl:k<l.length
 ·have dk:decide ((k:Int)<(l.length:Int))=true:=Yae (by omega)
  have e7:IntKind.i64.wrap ((k:Int)+1)=((k+1:Nat):Int):=Zc _ (by omega) (by omega)
  have hcl:=Zo0 l k
  have e8:IntKind.i64.wrap ((Zf8 l k:Int)+1)=((Zf8 l k+1:Nat):Int):=Zc _ (by omega) (by omega)
  by_cases h0:k=0
  ·have g0:((k:Int)==0)=true:=beq_iff_eq.2 (by omega)
   have hcn:Zf8 l (k+1)=Zf8 l k+1:=by rw[Zf8,if_pos (.inl h0)]
   have nx:=aI @dk (aI @g0 (aI @e7 (aI @e8 trivial)))
   refine' ZgS
   all_goals first
    |exact⟨l.length-(k+1),by omega,k+1,by rw[hcn];rfl,by omega,rfl⟩
  ·have g0:((k:Int)==0)=false:=Yam.2 (by omega)
   have e1:IntKind.i64.wrap ((k:Int)-1)=((k-1:Nat):Int):=by rw[Zc _ (by omega) (by omega)];omega
   have hk1:k-1<l.length:=by omega
   have hcn:Zf8 l (k+1)=Zf8 l k+(if l.getD k 0≠l.getD (k-1) 0 then 1 else 0):=by
    rw[Zf8]
    by_cases h:l.getD k 0≠l.getD (k-1) 0
    ·rw[if_pos h,if_pos (.inr h)]
    ·rw[if_neg h,if_neg (fun h'=>h (h'.resolve_left h0))]
   generalize hx:l.getD k 0=x at hcn
   generalize hy:l.getD (k-1) 0=y at hcn
   by_cases hxy:x=y
   ·have g1:(x != y)=false:=by rw[hxy];exact bne_self_eq_false y
    rw[if_neg (fun h=>h hxy)]at hcn
    have nx:=aI @dk (aI @g0 (aI @g1 (aI @hx (aI @hy (aI @e1 (aI @e7 trivial))))))
    refine' ZgS
    all_goals first
     |exact⟨l.length-(k+1),by omega,k+1,by rw[hcn];rfl,by omega,rfl⟩
   ·have g1:(x != y)=true:=bne_iff_ne.2 hxy
    rw[if_pos hxy]at hcn
    have nx:=aI @dk (aI @g0 (aI @g1 (aI @hx (aI @hy (aI @e1 (aI @e7 (aI @e8 trivial)))))))
    refine' ZgS
    all_goals first
     |exact⟨l.length-(k+1),by omega,k+1,by rw[hcn];rfl,by omega,rfl⟩
 have dk:decide ((k:Int)<(l.length:Int))=false:=Yaf (by omega)
 obtain rfl:k=l.length:=by omega
 clear hmust
 have hcl:=Zo0 l l.length
 have hnum:=Zai ⟨[],false⟩ [(Zf8 l l.length:Int)] (by simp only[List.length_singleton,List.length_nil];omega)
 have hl1:=Zq [(Zf8 l l.length:Int)] ⟨[],false⟩
 simp only[List.length_singleton,List.length_nil]at hl1
 generalize Zf8 l l.length=cn at hnum hl1 hY
 generalize Z9 [(cn:Int)] ⟨[],false⟩=q1 at hnum hl1 hY
 obtain⟨Q2,hQ2⟩: ∃Q2,Zft l.length l q1=Q2:=⟨_,rfl⟩
 rw[hQ2]at hY
 have hmust:True:=trivial
 obtain⟨bq,badq⟩:=q1
 unfold owM at hnum
 simp only at hnum hl1
 have nx:=aI @dk trivial
 refine' Zk9
 refine AW.loop [0,3,4,7] [0,1000,3,16,17000] (fun m st=> ∃(i fu:Nat) (q:Ow),st=C2 pn ⟨b1,bad1⟩ q l cd i/\i<=l.length/\l.length-i<=fu/\q.b.length+11*(l.length-i)<=11*l.length+10/\Zft fu (l.drop i) q=Q2/\m=l.length-i) ?_ ?_
 ·exact⟨_,0,l.length,⟨bq,badq⟩,rfl,Nat.zero_le _,Nat.le_refl _,by simp only;omega,hQ2,rfl⟩
 clear hnum hl1 hQ2 dk hcl
 have hnum:True:=trivial
 rintro m st ⟨i,fu,q,rfl,hi,hfu,hqb,hQ2,rfl⟩
 by_cases hil:i<l.length
 ·have di:decide ((i:Int)<(l.length:Int))=true:=Yae (by omega)
  obtain⟨f2,rfl⟩: ∃f2,fu=f2+1:=⟨fu-1,by omega⟩
  have hdr:l.drop i=l.getD i 0::l.drop (i+1):=ZbQ hil
  rw[hdr,Zft]at hQ2
  generalize hx:l.getD i 0=x at hQ2
  have hrl:=Zee x (l.drop (i+1))
  rw[Yaw]at hrl
  obtain⟨R,hR⟩: ∃R,Zz x (l.drop (i+1))=R:=⟨_,rfl⟩
  rw[hR]at hQ2 hrl
  obtain⟨bq,badq⟩:=q
  have nx:=aI @di trivial
  refine' Zk9
  refine AW.loop [0,3,4,7,8] [0,1000,3,16,17000] (fun m st=> ∃n:Nat,st=C3 pn ⟨b1,bad1⟩ ⟨bq,badq⟩ l cd i n/\1<=n/\i+n<=l.length/\n-1+Zz x (l.drop (i+n))=R/\m=l.length-(i+n)) ?_ ?_
  ·exact⟨_,1,rfl,Nat.le_refl _,by omega,by rw[Nat.sub_self,Nat.zero_add];exact hR,rfl⟩
  rintro m st ⟨n,rfl,hn1,hn2,hRn,rfl⟩
  have e1:IntKind.i64.wrap ((i:Int)+(n:Int))=((i+n:Nat):Int):=Zc _ (by omega) (by omega)
  by_cases hgo:i+n<l.length/\l.getD (i+n) 0=x
  ·obtain⟨hgl,hgx⟩:=hgo
   have dg:decide (((i+n:Nat):Int)<(l.length:Int))=true:=Yae (by omega)
   have g1:(x==x)=true:=Ya4 x
   have e7:IntKind.i64.wrap ((n:Int)+1)=((n+1:Nat):Int):=Zc _ (by omega) (by omega)
   have hd2:l.drop (i+n)=l.getD (i+n) 0::l.drop (i+(n+1)):=ZbQ hgl
   rw[hd2,Zz,if_pos hgx]at hRn
   have nx:=aI @dg (aI @e1 (aI @hgx (aI @hx (aI @g1 (aI @e7 trivial)))))
   refine' ZgS
   all_goals first
    |exact⟨l.length-(i+(n+1)),by omega,n+1,rfl,by omega,by omega,by omega,rfl⟩
  ·have hnR:n=R+1:=by
    by_cases hgl:i+n<l.length
    ·have hd2:l.drop (i+n)=l.getD (i+n) 0::l.drop (i+n+1):=ZbQ hgl
     rw[hd2,Zz,if_neg (fun h=>hgo ⟨hgl,h⟩)]at hRn
     omega
    ·rw[Ya7 (by omega),Zz]at hRn
     omega
   have hnum:=Zai ⟨bq,badq⟩ [(n:Int)] (by simp only[List.length_singleton];simp only at hqb;omega)
   have hl1:=Zq [(n:Int)] ⟨bq,badq⟩
   simp only[List.length_singleton]at hl1 hqb
   rw[<- hnR]at hQ2
   generalize Z9 [(n:Int)] ⟨bq,badq⟩=q1 at hnum hl1 hQ2
   have hkind:=Zg9 q1 [x] (by simp only[List.length_singleton];omega)
   have hl2:=Zb6 [x] q1
   simp only[List.length_singleton]at hl2
   generalize ZbI [x] q1=q2 at hkind hl2 hQ2
   rw[List.drop_drop]at hQ2
   have hQ3:Zft f2 (l.drop (i+n)) q2=Q2:=by rw[<- hQ2];congr 2;omega
   have hqn:q2.b.length+11*(l.length-(i+n))<=11*l.length+10:=by omega
   obtain⟨bq1,badq1⟩:=q1
   obtain⟨bq2,badq2⟩:=q2
   unfold owM at hnum hkind
   simp only at hnum hkind
   by_cases hgl:i+n<l.length
   case' pos=>
    have dg:decide (((i+n:Nat):Int)<(l.length:Int))=true:=Yae (by omega)
    have g1:(l.getD (i+n) 0==x)=false:=Yam.2 fun h=>hgo ⟨hgl,h⟩
   case' neg=>
    have dg:decide (((i+n:Nat):Int)<(l.length:Int))=false:=Yaf (by omega)
    have g1:True:=trivial
   all_goals
    clear hl1 hl2 hqb hQ2 hR hRn hdr
    have nx:=aI @dg (aI @e1 (aI @hx (aI @g1 trivial)))
    refine' ZgS
    all_goals first
     |exact⟨l.length-(i+n),by omega,i+n,f2,⟨bq2,badq2⟩,rfl,by omega,by omega,hqn,hQ3,rfl⟩
 ·have di:decide ((i:Int)<(l.length:Int))=false:=Yaf (by omega)
  obtain rfl:i=l.length:=by omega
  have hq2:q=Q2:=by
   rw[<- hQ2,Ya7 (Nat.le_refl _)]
   cases fu<;>rfl
  subst hq2
  have hexpr:=Ziz q cd hw (by omega)
  have hle:=ZcV cd q
  generalize ZeQ cd q=q3 at hexpr hle hY
  obtain⟨c3,hc3⟩: ∃c3,(!q3.bad)=c3:=⟨_,rfl⟩
  rw[hc3]at hY
  have hmust2:=Zat ⟨b1,bad1⟩ c3
  have hlm2:=ZaE c3 ⟨b1,bad1⟩
  generalize Zy c3 ⟨b1,bad1⟩=o2 at hmust2 hlm2 hY
  simp only at hlm hlm2
  have hnum2:=Zai o2 [(q3.b.length:Int)] (by simp only[List.length_singleton];omega)
  have hl5:=Zq [(q3.b.length:Int)] o2
  simp only[List.length_singleton]at hl5
  generalize Z9 [(q3.b.length:Int)] o2=o3 at hnum2 hl5 hY
  have hb3:o3.b.length+q3.b.length<=1000000000:=by omega
  obtain⟨bq,badq⟩:=q
  obtain⟨bq3,badq3⟩:=q3
  obtain⟨b2,bad2⟩:=o2
  obtain⟨b3,bad3⟩:=o3
  have hcut:List.take b3.length (Zi .u8 b3)=Zi .u8 b3:=Yad (by rw[Zb];exact Nat.le_refl _)
  have hcup:List.take bq3.length (Zi .u8 bq3)=Zi .u8 bq3:=Yad (by rw[Zb];exact Nat.le_refl _)
  have hap:Zi .u8 b3++Zi .u8 bq3=Zi .u8 (b3++bq3):=by simp only[Zi,List.map_append]
  have hlen:(b3++bq3).length=b3.length+bq3.length:=Yal
  subst hY
  unfold owM at hexpr hmust2 hnum2
  simp only at hexpr hmust2 hnum2 hc3 hb3
  clear hQ2 hlm hlm2 hl5 hle hl hqb
  have nx:=aI @di (aI @hc3 trivial)
  refine' Zya
  refine AW.drawT (L0:=(bA 13 0)) (by decide +kernel) Zjo ?_
  have nx:=aI @hcut (aI @hcup (aI @hap trivial))
  refine' Zyb
  all_goals
   (repeat (first|refine QEq.mp (by assumption) ?_|simp only[Zbd,Go.Abs.blockQ,↓reduceIte,Nat.reduceEqDiff]))
   have nx:=aI @hlen trivial
   refine' Zk9
   all_goals first|exact⟨trivial,trivial⟩|exact⟨rfl,trivial⟩|exact⟨rfl,rfl⟩|exact⟨trivial,rfl⟩|(exfalso;omega)|trace_state
end
end Go.Proofs.YtimhmpdfioihlaaGreatDoor
namespace Go.Proofs.YtimhmpdfioihlaaGreatDoor
set_option maxRecDepth 20000
open Go Go.Abs
def Zb9 (m:Mod):List V:=[.view m.types.length 2 (m.types.flatMap ZhS),.view m.imports.length 3 (m.imports.flatMap ZjF),.view m.funcs.length 1 (Zi .i64 m.funcs),.view m.tables.length 2 (m.tables.flatMap Zgv),.view m.mems.length 2 (m.mems.flatMap Zgv),.view m.globals.length 3 (m.globals.flatMap Zde),.view m.exports.length 3 (m.exports.flatMap ZjG),.int .i64 m.start,.view m.elems.length 2 (m.elems.flatMap ZcW),.view m.codes.length 2 (m.codes.flatMap ZjH),.view m.datas.length 2 (m.datas.flatMap Zcp)]
end Go.Proofs.YtimhmpdfioihlaaGreatDoor
namespace Go.Proofs.YtimhmpdfioihlaaGreatDoor
set_option maxRecDepth 20000
open Go Go.Abs Nat
attribute [local irreducible] AW AWL AC FW CW CWr IntKind.wrap
open MB
theorem ZyU.cl {p:Prop}(h:p:=by
 first
  |refine AWL.cMP (f:=48) [(0,0)] ZzT rfl rfl rfl rfl rfl rfl rfl (q0) ?_ ?_
  |refine AWL.cMP (f:=47) [] ZzS rfl rfl rfl rfl rfl rfl rfl (q1) ?_ ?_
  |refine AWL.cMP (f:=82) [(0,0)] ZEl rfl rfl rfl rfl rfl rfl rfl (q2) ?_ ?_
  |refine AWL.cMP (f:=82) [(0,0)] ZEl rfl rfl rfl rfl rfl rfl rfl (q3) ?_ ?_
 all_goals(apply_rules (newGoals:= .nonDependentOnly) only[dep];exact())):p:=h
open ZyU ZeA Zm in
theorem ZBx {b:List Int}{p:Int}{en:Nat}(h:okT b p en):TF 79 [] b en p (Zqw (b.take en) p) (fun x=> .agg (ZhS x)):=by
 have q0:True:=trivial
 have d1:True:=trivial
 have q1:True:=trivial
 have q2:True:=trivial
 have q3:True:=trivial
 obtain⟨A,hA⟩: ∃A,Zqw (b.take en) p=A:=⟨_,rfl⟩
 rw[hA]
 unfold Zqw at hA
 unfold TF OKR ERR tpM
 simp only[ZaT]at hA
 have q0:=Zdb h
 have m0:=fun x y=>Za2 h (n:=x) (t:=y)
 (try unfold TF at q0)
 unfold OKR ERR tpM at q0
 rcases z0:Zcj (b.take en) p with⟨e,t0⟩|⟨c,t0⟩
 all_goals
  rw[z0]at hA q0
  simp only[Zk,Zn]at hA q0
 case' error=>subst hA
 case' ok=>
  obtain⟨h0,_,cb⟩:=m0 _ _ z0
  by_cases c1:c=96
  case' neg=>
   have q1:=Zfs
   have d1:(c==96)=false:=by first|exact Yaf c1|(rw[Yam];exact c1)
   rw[if_neg c1]at hA
   subst hA
  case' pos=>
   have q1:=Zf7
   have d1:(c==96)=true:=by first|exact Yae c1|(rw[beq_iff_eq];exact c1)
   rw[if_pos c1]at hA
   (try simp only at hA)
   have q2:=Zhb h0 32 (by decide) Zw1 (one:=ZcR (b.take en)) (fun t ht=>Ziy ht) (fun t a q ht hq=>(Zcq ht hq).1)
   have m2:=fun x y=>Zbj (most:=32) h0 (fun t a q ht hq=>⟨(Zcq ht hq).1,Int.le_of_lt (Zcq ht hq).2.1⟩) (l:=x) (t:=y)
   (try unfold TF at q2)
   unfold OKR ERR tpM at q2
   rcases z2:Z3 (b.take en) 32 (ZcR (b.take en)) t0 with⟨e,t2⟩|⟨i,t2⟩
   all_goals
    rw[z2]at hA q2
    simp only[Zk,Zn,ZiD]at hA q2
   case' error=>subst hA
   case' ok=>
    obtain⟨h2,ib⟩:=m2 _ _ z2
    have q3:=Zhb h2 32 (by decide) Zw1 (one:=ZcR (b.take en)) (fun t ht=>Ziy ht) (fun t a q ht hq=>(Zcq ht hq).1)
    have m3:=fun x y=>Zbj (most:=32) h2 (fun t a q ht hq=>⟨(Zcq ht hq).1,Int.le_of_lt (Zcq ht hq).2.1⟩) (l:=x) (t:=y)
    (try unfold TF at q3)
    unfold OKR ERR tpM at q3
    rcases z3:Z3 (b.take en) 32 (ZcR (b.take en)) t2 with⟨e,t3⟩|⟨o,t3⟩
    all_goals
     rw[z3]at hA q3
     simp only[Zk,Zn,ZiD]at hA q3
    case' error=>subst hA
    case' ok=>
     obtain⟨h3,ob⟩:=m3 _ _ z3
     subst hA
 all_goals
  (try unfold ZhS)
  refine AMP.enter Tryz.func79 rfl (Yaa rfl) (fun pn=> ?_)
  simp only[Tryz.f79]
  have nx:=aI @d1 trivial
  refine' Zqc
  all_goals first|exact⟨trivial,trivial⟩|exact⟨rfl,trivial⟩|exact⟨rfl,rfl⟩|exact⟨trivial,rfl⟩|(exfalso;omega)|trace_state
theorem ZyV.cl {p:Prop}(h:p:=by
 first
  |refine AWL.cMP (f:=51) [(0,0)] ZEj rfl rfl rfl rfl rfl rfl rfl (q0) ?_ ?_
  |refine AWL.cMP (f:=51) [(0,0)] ZEj rfl rfl rfl rfl rfl rfl rfl (q1) ?_ ?_
  |refine AWL.cMP (f:=48) [(0,0)] ZzT rfl rfl rfl rfl rfl rfl rfl (q2) ?_ ?_
  |refine AWL.cMP (f:=47) [] ZzS rfl rfl rfl rfl rfl rfl rfl (q3) ?_ ?_
  |refine AWL.cMP (f:=50) [(0,0)] Zrw rfl rfl rfl rfl rfl rfl rfl (q4) ?_ ?_
 all_goals(apply_rules (newGoals:= .nonDependentOnly) only[dep];exact())):p:=h
open ZyV ZeA Zm in
theorem Zny {b:List Int}{p:Int}{en:Nat}(h:okT b p en):TF 81 [] b en p (Zqx (b.take en) p) (fun x=> .agg (ZjF x)):=by
 have q0:True:=trivial
 have q1:True:=trivial
 have q2:True:=trivial
 have d3:True:=trivial
 have q3:True:=trivial
 have q4:True:=trivial
 obtain⟨A,hA⟩: ∃A,Zqx (b.take en) p=A:=⟨_,rfl⟩
 rw[hA]
 unfold Zqx at hA
 unfold TF OKR ERR tpM
 simp only[ZaT]at hA
 have q0:=ZiB h
 have m0:=fun x y=>ZfQ h (l:=x) (t:=y)
 (try unfold TF at q0)
 unfold OKR ERR tpM at q0
 rcases z0:Ze3 (b.take en) p with⟨e,t0⟩|⟨m,t0⟩
 all_goals
  rw[z0]at hA q0
  simp only[Zk,Zn]at hA q0
 case' error=>subst hA
 case' ok=>
  obtain⟨h0,_,mb⟩:=m0 _ _ z0
  have q1:=ZiB h0
  have m1:=fun x y=>ZfQ h0 (l:=x) (t:=y)
  (try unfold TF at q1)
  unfold OKR ERR tpM at q1
  rcases z1:Ze3 (b.take en) t0 with⟨e,t1⟩|⟨n,t1⟩
  all_goals
   rw[z1]at hA q1
   simp only[Zk,Zn]at hA q1
  case' error=>subst hA
  case' ok=>
   obtain⟨h1,_,nb⟩:=m1 _ _ z1
   have q2:=Zdb h1
   have m2:=fun x y=>Za2 h1 (n:=x) (t:=y)
   (try unfold TF at q2)
   unfold OKR ERR tpM at q2
   rcases z2:Zcj (b.take en) t1 with⟨e,t2⟩|⟨c,t2⟩
   all_goals
    rw[z2]at hA q2
    simp only[Zk,Zn]at hA q2
   case' error=>subst hA
   case' ok=>
    obtain⟨h2,_,cb⟩:=m2 _ _ z2
    by_cases c3:c=0
    case' neg=>
     have q3:=Zfs
     have d3:(c==0)=false:=by first|exact Yaf c3|(rw[Yam];exact c3)
     rw[if_neg c3]at hA
     subst hA
    case' pos=>
     have q3:=Zf7
     have d3:(c==0)=true:=by first|exact Yae c3|(rw[beq_iff_eq];exact c3)
     rw[if_pos c3]at hA
     (try simp only at hA)
     have q4:=ZcC h2
     have m4:=fun x y=>Zbo h2 (n:=x) (t:=y)
     (try unfold TF at q4)
     unfold OKR ERR tpM at q4
     rcases z4:nmT (b.take en) t2 with⟨e,t4⟩|⟨i,t4⟩
     all_goals
      rw[z4]at hA q4
      simp only[Zk,Zn]at hA q4
     case' error=>subst hA
     case' ok=>
      obtain⟨h4,_,ib⟩:=m4 _ _ z4
      subst hA
 all_goals
  (try unfold ZjF)
  refine AMP.enter Tryz.func81 rfl (Yaa rfl) (fun pn=> ?_)
  simp only[Tryz.f81]
  have nx:=aI @d3 trivial
  refine' ZbW
  all_goals first|exact⟨trivial,trivial⟩|exact⟨rfl,trivial⟩|exact⟨rfl,rfl⟩|exact⟨trivial,rfl⟩|(exfalso;omega)|trace_state
theorem ZvU.cl {p:Prop}(h:p:=by
 first
  |refine AWL.cMP (f:=116) [(0,0)] Zw1 rfl rfl rfl rfl rfl rfl rfl (q0) ?_ ?_
  |refine AWL.cMP (f:=48) [(0,0)] ZzT rfl rfl rfl rfl rfl rfl rfl (q1) ?_ ?_
  |refine AWL.cMP (f:=47) [] ZzS rfl rfl rfl rfl rfl rfl rfl (q2) ?_ ?_
  |refine AWL.cMP (f:=117) [(0,0)] Zw2 rfl rfl rfl rfl rfl rfl rfl (q3) ?_ ?_
 all_goals(apply_rules (newGoals:= .nonDependentOnly) only[dep];exact())):p:=h
open ZvU ZAF Zm in
theorem ZrZ {b:List Int}{p:Int}{en:Nat}(h:okT b p en):TF 88 [] b en p (Zg1 (b.take en) p) (fun x=> .agg (Zde x)):=by
 have q0:True:=trivial
 have q1:True:=trivial
 have d2:True:=trivial
 have q2:True:=trivial
 have q3:True:=trivial
 obtain⟨A,hA⟩: ∃A,Zg1 (b.take en) p=A:=⟨_,rfl⟩
 rw[hA]
 unfold Zg1 at hA
 unfold TF OKR ERR tpM
 simp only[ZaT]at hA
 have q0:=Ziy h
 have m0:=fun x y=>Zcq h (n:=x) (t:=y)
 (try unfold TF at q0)
 unfold OKR ERR tpM at q0
 rcases z0:ZcR (b.take en) p with⟨e,t0⟩|⟨k,t0⟩
 all_goals
  rw[z0]at hA q0
  simp only[Zk,Zn]at hA q0
 case' error=>subst hA
 case' ok=>
  obtain⟨h0,_,kb⟩:=m0 _ _ z0
  have q1:=Zdb h0
  have m1:=fun x y=>Za2 h0 (n:=x) (t:=y)
  (try unfold TF at q1)
  unfold OKR ERR tpM at q1
  rcases z1:Zcj (b.take en) t0 with⟨e,t1⟩|⟨c,t1⟩
  all_goals
   rw[z1]at hA q1
   simp only[Zk,Zn]at hA q1
  case' error=>subst hA
  case' ok=>
   obtain⟨h1,_,cb⟩:=m1 _ _ z1
   by_cases c2:c<=1
   case' neg=>
    have q2:=Zfs
    have d2:(decide (c<=1))=false:=by first|exact Yaf c2|(rw[Yam];exact c2)
    rw[if_neg c2]at hA
    subst hA
   case' pos=>
    have q2:=Zf7
    have d2:(decide (c<=1))=true:=by first|exact Yae c2|(rw[beq_iff_eq];exact c2)
    rw[if_pos c2]at hA
    (try simp only at hA)
    have q3:=ZiC h1
    have m3:=fun x y=>ZeR h1 (c:=x) (t:=y)
    (try unfold TF at q3)
    unfold OKR ERR tpM at q3
    rcases z3:Zea (b.take en) t1 with⟨e,t3⟩|⟨e,t3⟩
    all_goals
     rw[z3]at hA q3
     simp only[Zk,Zn]at hA q3
    case' error=>subst hA
    case' ok=>
     obtain⟨h3,eb⟩:=m3 _ _ z3
     subst hA
 all_goals
  (try unfold Zde)
  refine AMP.enter Tryz.func88 rfl (Yaa rfl) (fun pn=> ?_)
  simp only[Tryz.f88]
  have nx:=aI @d2 trivial
  refine' ZbW
  all_goals first|exact⟨trivial,trivial⟩|exact⟨rfl,trivial⟩|exact⟨rfl,rfl⟩|exact⟨trivial,rfl⟩|(exfalso;omega)|trace_state
theorem ZyW.cl {p:Prop}(h:p:=by
 first
  |refine AWL.cMP (f:=51) [(0,0)] ZEj rfl rfl rfl rfl rfl rfl rfl (q0) ?_ ?_
  |refine AWL.cMP (f:=48) [(0,0)] ZzT rfl rfl rfl rfl rfl rfl rfl (q1) ?_ ?_
  |refine AWL.cMP (f:=47) [] ZzS rfl rfl rfl rfl rfl rfl rfl (q2) ?_ ?_
  |refine AWL.cMP (f:=50) [(0,0)] Zrw rfl rfl rfl rfl rfl rfl rfl (q3) ?_ ?_
 all_goals(apply_rules (newGoals:= .nonDependentOnly) only[dep];exact())):p:=h
open ZyW ZeA Zm in
theorem Zr0 {b:List Int}{p:Int}{en:Nat}(h:okT b p en):TF 90 [] b en p (Zqy (b.take en) p) (fun x=> .agg (ZjG x)):=by
 have q0:True:=trivial
 have q1:True:=trivial
 have e1:True:=trivial
 have d2:True:=trivial
 have q2:True:=trivial
 have q3:True:=trivial
 obtain⟨A,hA⟩: ∃A,Zqy (b.take en) p=A:=⟨_,rfl⟩
 rw[hA]
 unfold Zqy at hA
 unfold TF OKR ERR tpM
 simp only[ZaT]at hA
 have q0:=ZiB h
 have m0:=fun x y=>ZfQ h (l:=x) (t:=y)
 (try unfold TF at q0)
 unfold OKR ERR tpM at q0
 rcases z0:Ze3 (b.take en) p with⟨e,t0⟩|⟨n,t0⟩
 all_goals
  rw[z0]at hA q0
  simp only[Zk,Zn]at hA q0
 case' error=>subst hA
 case' ok=>
  obtain⟨h0,_,nb⟩:=m0 _ _ z0
  have q1:=Zdb h0
  have m1:=fun x y=>Za2 h0 (n:=x) (t:=y)
  (try unfold TF at q1)
  unfold OKR ERR tpM at q1
  rcases z1:Zcj (b.take en) t0 with⟨e,t1⟩|⟨c,t1⟩
  all_goals
   rw[z1]at hA q1
   simp only[Zk,Zn]at hA q1
  case' error=>subst hA
  case' ok=>
   obtain⟨h1,_,cb⟩:=m1 _ _ z1
   have e1:IntKind.i64.wrap c=c:=Zc _ (by have:=cb.1;omega) (by have:=cb.2;omega)
   by_cases c2:c<=3
   case' neg=>
    have q2:=Zfs
    have d2:(decide (c<=3))=false:=by first|exact Yaf c2|(rw[Yam];exact c2)
    rw[if_neg c2]at hA
    subst hA
   case' pos=>
    have q2:=Zf7
    have d2:(decide (c<=3))=true:=by first|exact Yae c2|(rw[beq_iff_eq];exact c2)
    rw[if_pos c2]at hA
    (try simp only at hA)
    have q3:=ZcC h1
    have m3:=fun x y=>Zbo h1 (n:=x) (t:=y)
    (try unfold TF at q3)
    unfold OKR ERR tpM at q3
    rcases z3:nmT (b.take en) t1 with⟨e,t3⟩|⟨i,t3⟩
    all_goals
     rw[z3]at hA q3
     simp only[Zk,Zn]at hA q3
    case' error=>subst hA
    case' ok=>
     obtain⟨h3,_,ib⟩:=m3 _ _ z3
     subst hA
 all_goals
  (try unfold ZjG)
  refine AMP.enter Tryz.func90 rfl (Yaa rfl) (fun pn=> ?_)
  simp only[Tryz.f90]
  have nx:=aI @e1 (aI @d2 trivial)
  refine' ZbW
  all_goals first|exact⟨trivial,trivial⟩|exact⟨rfl,trivial⟩|exact⟨rfl,rfl⟩|exact⟨trivial,rfl⟩|(exfalso;omega)|trace_state
theorem ZvV.cl {p:Prop}(h:p:=by
 first
  |refine AWL.cMP (f:=50) [(0,0)] Zrw rfl rfl rfl rfl rfl rfl rfl (q0) ?_ ?_
  |refine AWL.cMP (f:=47) [] ZzS rfl rfl rfl rfl rfl rfl rfl (q1) ?_ ?_
  |refine AWL.cMP (f:=117) [(0,0)] Zw2 rfl rfl rfl rfl rfl rfl rfl (q2) ?_ ?_
  |refine AWL.cMP (f:=82) [(0,0)] ZEl rfl rfl rfl rfl rfl rfl rfl (q3) ?_ ?_
 all_goals(apply_rules (newGoals:= .nonDependentOnly) only[dep];exact())):p:=h
open ZvV ZeA Zm in
theorem ZyX {b:List Int}{p:Int}{en:Nat}(h:okT b p en):TF 92 [] b en p (Zg2 (b.take en) p) (fun x=> .agg (ZcW x)):=by
 have q0:True:=trivial
 have d1:True:=trivial
 have q1:True:=trivial
 have q2:True:=trivial
 have q3:True:=trivial
 obtain⟨A,hA⟩: ∃A,Zg2 (b.take en) p=A:=⟨_,rfl⟩
 rw[hA]
 unfold Zg2 at hA
 unfold TF OKR ERR tpM
 simp only[ZaT]at hA
 have q0:=ZcC h
 have m0:=fun x y=>Zbo h (n:=x) (t:=y)
 (try unfold TF at q0)
 unfold OKR ERR tpM at q0
 rcases z0:nmT (b.take en) p with⟨e,t0⟩|⟨c,t0⟩
 all_goals
  rw[z0]at hA q0
  simp only[Zk,Zn]at hA q0
 case' error=>subst hA
 case' ok=>
  obtain⟨h0,_,cb⟩:=m0 _ _ z0
  by_cases c1:c=0
  case' neg=>
   have q1:=Zfs
   have d1:(c==0)=false:=by first|exact Yaf c1|(rw[Yam];exact c1)
   rw[if_neg c1]at hA
   subst hA
  case' pos=>
   have q1:=Zf7
   have d1:(c==0)=true:=by first|exact Yae c1|(rw[beq_iff_eq];exact c1)
   rw[if_pos c1]at hA
   (try simp only at hA)
   have q2:=ZiC h0
   have m2:=fun x y=>ZeR h0 (c:=x) (t:=y)
   (try unfold TF at q2)
   unfold OKR ERR tpM at q2
   rcases z2:Zea (b.take en) t0 with⟨e,t2⟩|⟨e,t2⟩
   all_goals
    rw[z2]at hA q2
    simp only[Zk,Zn]at hA q2
   case' error=>subst hA
   case' ok=>
    obtain⟨h2,eb⟩:=m2 _ _ z2
    have q3:=Zhb h2 1024 (by decide) Zrw (one:=nmT (b.take en)) (fun t ht=>ZcC ht) (fun t a q ht hq=>(Zbo ht hq).1)
    have m3:=fun x y=>Zbj (most:=1024) h2 (fun t a q ht hq=>⟨(Zbo ht hq).1,Int.le_of_lt (Zbo ht hq).2.1⟩) (l:=x) (t:=y)
    (try unfold TF at q3)
    unfold OKR ERR tpM at q3
    rcases z3:Z3 (b.take en) 1024 (nmT (b.take en)) t2 with⟨e,t3⟩|⟨f,t3⟩
    all_goals
     rw[z3]at hA q3
     simp only[Zk,Zn,ZiD]at hA q3
    case' error=>subst hA
    case' ok=>
     obtain⟨h3,fb⟩:=m3 _ _ z3
     subst hA
 all_goals
  (try unfold ZcW)
  refine AMP.enter Tryz.func92 rfl (Yaa rfl) (fun pn=> ?_)
  simp only[Tryz.f92]
  have nx:=aI @d1 trivial
  refine' Zqc
  all_goals first|exact⟨trivial,trivial⟩|exact⟨rfl,trivial⟩|exact⟨rfl,rfl⟩|exact⟨trivial,rfl⟩|(exfalso;omega)|trace_state
theorem ZvW.cl {p:Prop}(h:p:=by
 first
  |refine AWL.cMP (f:=50) [(0,0)] Zrw rfl rfl rfl rfl rfl rfl rfl (q0) ?_ ?_
  |refine AWL.cMP (f:=47) [] ZzS rfl rfl rfl rfl rfl rfl rfl (q1) ?_ ?_
  |refine AWL.cMP (f:=117) [(0,0)] Zw2 rfl rfl rfl rfl rfl rfl rfl (q2) ?_ ?_
  |refine AWL.cMP (f:=76) [(0,0)] ZGr rfl rfl rfl rfl rfl rfl rfl (q3) ?_ ?_
 all_goals(apply_rules (newGoals:= .nonDependentOnly) only[dep];exact())):p:=h
open ZvW ZeA Zm in
theorem ZyY {b:List Int}{p:Int}{en:Nat}(h:okT b p en):TF 96 [] b en p (Zg3 (b.take en) p) (fun x=> .agg (Zcp x)):=by
 have q0:True:=trivial
 have d1:True:=trivial
 have q1:True:=trivial
 have q2:True:=trivial
 have q3:True:=trivial
 obtain⟨A,hA⟩: ∃A,Zg3 (b.take en) p=A:=⟨_,rfl⟩
 rw[hA]
 unfold Zg3 at hA
 unfold TF OKR ERR tpM
 simp only[ZaT]at hA
 have q0:=ZcC h
 have m0:=fun x y=>Zbo h (n:=x) (t:=y)
 (try unfold TF at q0)
 unfold OKR ERR tpM at q0
 rcases z0:nmT (b.take en) p with⟨e,t0⟩|⟨c,t0⟩
 all_goals
  rw[z0]at hA q0
  simp only[Zk,Zn]at hA q0
 case' error=>subst hA
 case' ok=>
  obtain⟨h0,_,cb⟩:=m0 _ _ z0
  by_cases c1:c=0
  case' neg=>
   have q1:=Zfs
   have d1:(c==0)=false:=by first|exact Yaf c1|(rw[Yam];exact c1)
   rw[if_neg c1]at hA
   subst hA
  case' pos=>
   have q1:=Zf7
   have d1:(c==0)=true:=by first|exact Yae c1|(rw[beq_iff_eq];exact c1)
   rw[if_pos c1]at hA
   (try simp only at hA)
   have q2:=ZiC h0
   have m2:=fun x y=>ZeR h0 (c:=x) (t:=y)
   (try unfold TF at q2)
   unfold OKR ERR tpM at q2
   rcases z2:Zea (b.take en) t0 with⟨e,t2⟩|⟨e,t2⟩
   all_goals
    rw[z2]at hA q2
    simp only[Zk,Zn]at hA q2
   case' error=>subst hA
   case' ok=>
    obtain⟨h2,eb⟩:=m2 _ _ z2
    have q3:=Znm h2
    have m3:=fun x y=>Zha h2 (l:=x) (t:=y)
    (try unfold TF at q3)
    unfold OKR ERR tpM at q3
    rcases z3:Zdp (b.take en) t2 with⟨e,t3⟩|⟨y,t3⟩
    all_goals
     rw[z3]at hA q3
     simp only[Zk,Zn]at hA q3
    case' error=>subst hA
    case' ok=>
     obtain⟨h3,_,yb⟩:=m3 _ _ z3
     subst hA
 all_goals
  (try unfold Zcp)
  refine AMP.enter Tryz.func96 rfl (Yaa rfl) (fun pn=> ?_)
  simp only[Tryz.f96]
  have nx:=aI @d1 trivial
  refine' ZbW
  all_goals first|exact⟨trivial,trivial⟩|exact⟨rfl,trivial⟩|exact⟨rfl,rfl⟩|exact⟨trivial,rfl⟩|(exfalso;omega)|trace_state
end Go.Proofs.YtimhmpdfioihlaaGreatDoor
namespace Go.Proofs.YtimhmpdfioihlaaGreatDoor
set_option maxRecDepth 20000
open Go Go.Abs
section
theorem ZaJ {α β:Type}{x:Res α}{f:α->Int->Res β}{z:β×Int}(h:bnd x f= .ok z): ∃a t,x= .ok (a,t)/\f a t= .ok z:=by
 rcases x with e|⟨a,t⟩
 ·cases h
 ·exact⟨a,t,rfl,h⟩
theorem Zdu {c:Prop}[Decidable c]{α:Type}{x:Int->Res α}{t:Int}{z:α×Int}(h:ZaT c x t= .ok z):c/\x t= .ok z:=by
 unfold ZaT at h
 split at h
 ·rename_i hc;exact⟨hc,h⟩
 ·cases h
theorem Zhg {α:Type}{a b:α}{t u:Int}(h:(.ok (a,t):Res α)= .ok (b,u)):a=b/\t=u:=by
 simp only[Except.ok.injEq,Yai]at h;exact h
section
variable {b:List Int}{p t:Int}{en:Nat}
theorem Zo1 {most:Int}(h:okT b p en){x:Int×Int}(he:Zjx (b.take en) most p= .ok (x,t)):okT b t en/\p<=t:=by
 unfold Zjx at he
 obtain⟨f,t0,z0,he⟩:=ZaJ he
 obtain⟨h0,e0,_⟩:=Za2 h z0
 split at he
 ·cases he
 obtain⟨n,t1,z1,he⟩:=ZaJ he
 obtain⟨h1,e1,_⟩:=ZcE h0 z1
 split at he
 ·obtain⟨n,t2,z2,he⟩:=ZaJ he
  obtain⟨h2,e2,_⟩:=Zbo h1 z2
  obtain⟨_,rfl⟩:=Zhg he
  exact⟨h2,by omega⟩
 ·obtain⟨_,rfl⟩:=Zhg he
  exact⟨h1,by omega⟩
theorem ZvX (h:okT b p en){x:Int×Int}(he:ZoO (b.take en) p= .ok (x,t)):okT b t en/\p<=t:=by
 unfold ZoO at he
 obtain⟨f,t0,z0,he⟩:=ZaJ he
 obtain⟨h0,e0,_⟩:=Za2 h z0
 obtain⟨_,he⟩:=Zdu he
 obtain⟨h1,e1⟩:=Zo1 h0 he
 exact⟨h1,by omega⟩
theorem ZqR (h:okT b p en){l:List Int}(he:Z3 (b.take en) 32 (ZcR (b.take en)) p= .ok (l,t)):okT b t en/\p<=t:=by
 obtain⟨h1,e1,_⟩:=Zbj (most:=32) h (fun t a q ht hq=>⟨(Zcq ht hq).1,Int.le_of_lt (Zcq ht hq).2.1⟩) he
 exact⟨h1,Int.le_of_lt e1⟩
theorem ZvY (h:okT b p en){x:Zig}(he:Zqw (b.take en) p= .ok (x,t)):okT b t en/\p<=t:=by
 unfold Zqw at he
 obtain⟨f,t0,z0,he⟩:=ZaJ he
 obtain⟨h0,e0,_⟩:=Za2 h z0
 obtain⟨_,he⟩:=Zdu he
 obtain⟨i,t1,z1,he⟩:=ZaJ he
 obtain⟨h1,e1⟩:=ZqR h0 z1
 obtain⟨i,t2,z2,he⟩:=ZaJ he
 obtain⟨h2,e2⟩:=ZqR h1 z2
 obtain⟨_,rfl⟩:=Zhg he
 exact⟨h2,by omega⟩
theorem ZvZ (h:okT b p en){x:Zjy}(he:Zqx (b.take en) p= .ok (x,t)):okT b t en/\p<=t:=by
 unfold Zqx at he
 obtain⟨f,t0,z0,he⟩:=ZaJ he
 obtain⟨h0,e0,_⟩:=ZfQ h z0
 obtain⟨i,t1,z1,he⟩:=ZaJ he
 obtain⟨h1,e1,_⟩:=ZfQ h0 z1
 obtain⟨i,t2,z2,he⟩:=ZaJ he
 obtain⟨h2,e2,_⟩:=Za2 h1 z2
 obtain⟨_,he⟩:=Zdu he
 obtain⟨i,t3,z3,he⟩:=ZaJ he
 obtain⟨h3,e3,_⟩:=Zbo h2 z3
 obtain⟨_,rfl⟩:=Zhg he
 exact⟨h3,by omega⟩
theorem ZqS (h:okT b p en){x:ZdV}(he:Zg1 (b.take en) p= .ok (x,t)):okT b t en/\p<=t:=by
 unfold Zg1 at he
 obtain⟨f,t0,z0,he⟩:=ZaJ he
 obtain⟨h0,e0,_⟩:=Zcq h z0
 obtain⟨i,t1,z1,he⟩:=ZaJ he
 obtain⟨h1,e1,_⟩:=Za2 h0 z1
 obtain⟨_,he⟩:=Zdu he
 obtain⟨i,t2,z2,he⟩:=ZaJ he
 obtain⟨h2,e2⟩:=ZeR h1 z2
 obtain⟨_,rfl⟩:=Zhg he
 exact⟨h2,by omega⟩
theorem Zv0 (h:okT b p en){x:Zjz}(he:Zqy (b.take en) p= .ok (x,t)):okT b t en/\p<=t:=by
 unfold Zqy at he
 obtain⟨f,t0,z0,he⟩:=ZaJ he
 obtain⟨h0,e0,_⟩:=ZfQ h z0
 obtain⟨i,t1,z1,he⟩:=ZaJ he
 obtain⟨h1,e1,_⟩:=Za2 h0 z1
 obtain⟨_,he⟩:=Zdu he
 obtain⟨i,t2,z2,he⟩:=ZaJ he
 obtain⟨h2,e2,_⟩:=Zbo h1 z2
 obtain⟨_,rfl⟩:=Zhg he
 exact⟨h2,by omega⟩
theorem ZqT (h:okT b p en){x:ZcS}(he:Zg2 (b.take en) p= .ok (x,t)):okT b t en/\p<=t:=by
 unfold Zg2 at he
 obtain⟨f,t0,z0,he⟩:=ZaJ he
 obtain⟨h0,e0,_⟩:=Zbo h z0
 obtain⟨_,he⟩:=Zdu he
 obtain⟨i,t1,z1,he⟩:=ZaJ he
 obtain⟨h1,e1⟩:=ZeR h0 z1
 obtain⟨i,t2,z2,he⟩:=ZaJ he
 obtain⟨h2,e2,_⟩:=Zbj (most:=1024) h1 (fun t a q ht hq=>⟨(Zbo ht hq).1,Int.le_of_lt (Zbo ht hq).2.1⟩) z2
 obtain⟨_,rfl⟩:=Zhg he
 exact⟨h2,by omega⟩
theorem ZqU (h:okT b p en){x:ZbS}(he:Zg3 (b.take en) p= .ok (x,t)):okT b t en/\p<=t:=by
 unfold Zg3 at he
 obtain⟨f,t0,z0,he⟩:=ZaJ he
 obtain⟨h0,e0,_⟩:=Zbo h z0
 obtain⟨_,he⟩:=Zdu he
 obtain⟨i,t1,z1,he⟩:=ZaJ he
 obtain⟨h1,e1⟩:=ZeR h0 z1
 obtain⟨i,t2,z2,he⟩:=ZaJ he
 obtain⟨h2,e2,_⟩:=Zha h1 z2
 obtain⟨_,rfl⟩:=Zhg he
 exact⟨h2,by omega⟩
theorem ZDN {α:Type}{f:List Int->Int->Res α}{xs:List Int}{s u:Int}{x:α}(he:inT xs f s u= .ok (x,t)):t=u:=by
 unfold inT at he
 split at he
 ·exact(Zhg he).2.symm
 ·cases he
theorem ZqV (h:okT b p en){x:Zb8}(he:Zg4 (b.take en) p= .ok (x,t)):okT b t en/\p<=t:=by
 unfold Zg4 at he
 obtain⟨s,u,z0,he⟩:=ZaJ he
 obtain⟨h0,e0,e1⟩:=ZqI h z0
 obtain rfl:=ZDN he
 exact⟨h0,by omega⟩
end
end
end Go.Proofs.YtimhmpdfioihlaaGreatDoor
