/- Float, of both; Arity. -/
import Derived.Test.YtimhmpdfioihlaaGreatDoorDP
import Derived.Test.YtimhmpdfioihlaaGreatDoorGPreV
import Derived.Test.YtimhmpdfioihlaaGreatDoorGV6
import Derived.Test.YtimhmpdfioihlaaGreatDoorGCB
import Derived.Test.YtimhmpdfioihlaaGreatDoorGRefpre
set_option linter.unusedSimpArgs false
set_option linter.unusedVariables false
set_option maxHeartbeats 12800000
namespace Go.Proofs.YtimhmpdfioihlaaGreatDoor
set_option maxRecDepth 20000
open Go Go.Abs Nat
theorem ZFk:Za Tryz.prog 169=true:=by kernel_rfl
attribute [local irreducible] AW AWL AC FW CW CWr IntKind.wrap
section
theorem ZHC.NM:type_of% @MB.NM/\type_of% @Zb5/\type_of% @Zas:=
 ⟨MB.NM,@Zb5,@Zas⟩
open ZHC
theorem ZCZ.kp:type_of% (@Z2 [0,2,8]):= @Z2 [0,2,8]
theorem ZCZ.cl {p:Prop}(h:p:=by
 first
  |refine AWL.frzG rfl rfl rfl ?_
  |refine AWL.cC (f:=169) ZFk rfl rfl rfl rfl rfl rfl (ZuY _) ?_
 all_goals(apply_rules (newGoals:= .nonDependentOnly) only[dep];exact())):p:=h
open ZeA ZoA Zut in
theorem ZuY (k:Int):AC Tryz.prog 169 [.int .i64 k] (fun r m=>r= .bool (if 0<=k then flS (k+64768)else false)/\m=[]):=by
 by_cases h0:0<=k
 ·rw[if_pos h0]
  refine AC.enter Tryz.func169 rfl (Yaa rfl) ?_
  simp only[Tryz.f169]
  have nx:=trivial
  refine' Zip
  all_goals first
   |exact⟨Zz0 ⟨fun _=>trivial,fun _=>(ZeG _).2 (by omega)⟩,trivial⟩
   |exact⟨ZCU (fun h=>by have:=(ZeG _).1 h;omega),trivial⟩
   |exact⟨Zz1 ⟨fun h=>(ZeG _).2 (by omega),fun h=>by have:=(ZeG _).1 h;omega⟩,trivial⟩
 ·rw[if_neg h0]
  refine AC.enter Tryz.func169 rfl (Yaa rfl) ?_
  simp only[Tryz.f169]
  have nx:=trivial
  refine' Zip
  all_goals first
   |exact⟨rfl,trivial⟩
   |(exfalso;omega)
open ZCZ Zut in
theorem Zyt (op:Int)(ho:op<9223372036854775808):AC Tryz.prog 156 [.int .i64 op] (fun r m=>r= .bool (flS op)/\m=[]):=by
 refine AC.enter Tryz.func156 rfl (Yaa rfl) ?_
 simp only[Tryz.f156]
 by_cases hop:op>=64768
 ·have e1:IntKind.i64.wrap (op-64768)=op-64768:=Zc _ (by omega) (by omega)
  have hc0:(if 0<=op-64768 then flS (op-64768+64768)else false)=flS op:=by rw[if_pos (by omega),show op-64768+64768=op from by omega]
  have nx:=aI @e1 (aI @hc0 trivial)
  refine' Zip
  all_goals first|exact⟨trivial,trivial⟩|exact⟨rfl,trivial⟩|exact⟨rfl,rfl⟩|exact⟨trivial,rfl⟩|(exfalso;omega)|trace_state
 ·have nx:=trivial
  refine' Zip
  all_goals first
   |exact⟨Zz0 ⟨fun _=>trivial,fun _=>(ZeG _).2 (by omega)⟩,trivial⟩
   |exact⟨ZCU (fun h=>by have:=(ZeG _).1 h;omega),trivial⟩
   |exact⟨Zz1 ⟨fun h=>(ZeG _).2 (by omega),fun h=>by have:=(ZeG _).1 h;omega⟩,trivial⟩
end
end Go.Proofs.YtimhmpdfioihlaaGreatDoor
namespace Go.Proofs.YtimhmpdfioihlaaGreatDoor
set_option maxRecDepth 20000
open Go Go.Abs
end Go.Proofs.YtimhmpdfioihlaaGreatDoor
namespace Go.Proofs.YtimhmpdfioihlaaGreatDoor
set_option maxRecDepth 20000
open Go Go.Abs Nat
attribute [local irreducible] AW AWL AC FW CW CWr IntKind.wrap
section
theorem ZC0.NM:type_of% @NSX/\type_of% @St.keepS.eq_1/\type_of% @TY/\type_of% @SLS/\type_of% @Zdn/\type_of% @Zkq/\type_of% @dz/\type_of% @Zb:=
 ⟨NSX,St.keepS.eq_1,@TY,@SLS,@Zdn,@Zkq,@dz,@Zb⟩
open ZC0
theorem ZuZ.cl {p:Prop}(h:p:=by
 first
  |(refine AWL.callA (f:=176) rfl rfl rfl ?_ (Yaa rfl) ?_ (ZuR ?_ ?_ ?_ ?_ ?_) rfl ?_;(focus kernel_rfl);(focus (simp(disch:=omega) only[VW,List.toList_toArray,List.map_cons,List.map_nil,NM,Nat.reduceBEq,reduceAdd,reduceMul,Int.reduceToNat,reduceSub,List.set_cons_zero,List.set_cons_succ,nx];(try exact rfl);done)))
 all_goals(apply_rules (newGoals:= .nonDependentOnly) only[dep];exact())):p:=h
theorem ZuZ.sd {p:Prop}(h:p:=by first|exact Zxc):p:=h
open ZuZ Zuv in
theorem Zyu (v:List Int)(hl:v.length=16)(hb:bytes v):AC Tryz.prog 172 [.fagg (Zi .u8 v)] (fun r m=>r= .agg [.int .u64 (lo v),.int .u64 (hi v)]/\m=[]):=by
 have h1:=ZbF hb 8
 have h2:=Zd8 hb 8
 have e1:(v.take 8).length=8:=by rw[Yar];omega
 have e2:(v.drop 8).length=8:=by rw[Yaw];omega
 have e3:(v.drop 8).take 8=v.drop 8:=Yad (by omega)
 refine AC.enter Tryz.func172 rfl (Yaa rfl) ?_
 simp only[Tryz.f172]
 have nx:=aI @e3 (aI @hl trivial)
 refine' ZxZ
 all_goals first|exact⟨rfl,trivial⟩|exact⟨trivial,trivial⟩|exact⟨rfl,rfl⟩|trace_state
end
end Go.Proofs.YtimhmpdfioihlaaGreatDoor
namespace Go.Proofs.YtimhmpdfioihlaaGreatDoor
set_option maxRecDepth 20000
open Go Go.Abs
structure Ins where
 op:Int
 a:Int
 b:Int
 lo:Int
 hi:Int
 l:List Int
 deriving DecidableEq
def ZgV (i:Ins):List V:=[.int .i64 i.op,.int .i64 i.a,.int .i64 i.b,.int .u64 i.lo,.int .u64 i.hi,.view i.l.length 1 (Zi .i64 i.l)]
structure Rd where
 pos:Int
 op:List Int
 jk:List Int
 err:Int
 deriving DecidableEq
def rdM (k ko:Nat)(b:List Int)(r:Rd):Mem:=[(k,⟨false,[.view b.length 1 (Zi .u8 b),.int .i64 r.pos,.ref ko 0 r.op.length 1,.int .i64 r.err]⟩),(ko,⟨true,Zi .i64 (r.op++r.jk)⟩)]
structure ZcB (b:List Int)(r:Rd):Prop where
 p0:0<=r.pos
 p1:r.pos<=b.length
def Zah (r:Rd)(e:Int):Rd:=if r.err=0 then{ r with err:=e }else r
def Zal (b:List Int)(r:Rd):Int×Rd:=if r.err≠0\/r.pos>=b.length then(0,Zah r 10)else(b.getD r.pos.toNat 0,{ r with pos:=r.pos+1 })
def Zay (b:List Int)(r:Rd):Int×Rd:=if r.err≠0 then(0,r)else if(Zbg b r.pos 32).2.2≠0 then(0,Zah r 10)else((Zbg b r.pos 32).1,{ r with pos:=(Zbg b r.pos 32).2.1 })
def ZfH (b:List Int)(n:Int)(r:Rd):Int×Rd:=if r.err≠0 then(0,r)else if(Zak b r.pos n).2.2≠0 then(0,Zah r 10)else((Zak b r.pos n).1,{ r with pos:=(Zak b r.pos n).2.1 })
def Zjw (b:List Int)(r:Rd):Int×Rd:=((ZfH b 33 r).1,if(ZfH b 33 r).1<0 then Zah (ZfH b 33 r).2 10 else(ZfH b 33 r).2)
def ZfX (c:Int):Prop:=c=64\/c=127\/c=126\/c=123
def ZdG (c:Int):Prop:=c=125\/c=124
instance (c:Int):Decidable (ZfX c):=by unfold ZfX;infer_instance
instance (c:Int):Decidable (ZdG c):=by unfold ZdG;infer_instance
def ZfY (b:List Int)(r:Rd):Int×Rd:=
 if r.pos<b.length then
  if ZfX (b.getD r.pos.toNat 0)then(b.getD r.pos.toNat 0-128,{ r with pos:=r.pos+1 })
  else if ZdG (b.getD r.pos.toNat 0)then(0,Zah r 11)
  else Zjw b r
 else Zjw b r
def ZeW (r:Rd):Bool×Rd:=if r.op.length=0 then(true,r)else(false,{ r with op:=r.op.take (r.op.length-1),jk:=r.op.drop (r.op.length-1)++r.jk })
def ZbR (op:Int)(r:Rd):Rd:=
 if op≠5 then{ (if r.op.length=128 then Zah r 3 else r)with op:=r.op++[op],jk:=[] }
 else if r.op.length=0\/r.op.getD (r.op.length-1) 0≠4 then Zah r 10
 else{ r with op:=r.op.take (r.op.length-1)++[5] }
def Zie (b:List Int):Nat->Rd->List Int->List Int×Rd
 |0,r,l=>(l,r)
 |n+1,r,l=>if r.err=0 then Zie b n (Zay b r).2 (l++[(Zay b r).1])else(l,r)
def Zgp (b:List Int):Nat->Rd->List Int×Rd
 |0,r=>([],r)
 |n+1,r=>((Zal b r).1::(Zgp b n (Zal b r).2).1,(Zgp b n (Zal b r).2).2)
def Zv (b:List Int)(form:Int)(r:Rd)(i:Ins):Ins×Rd:=
 if form=2 then({ i with a:=(ZfY b r).1 },(ZfY b r).2)
 else if form=3\/form=5 then({ i with a:=(Zay b r).1 },(Zay b r).2)
 else if form=4 then
  ({ i with a:=(Zay b (Zie b (Zay b r).1.toNat (Zay b r).2 i.l).2).1,l:=(Zie b (Zay b r).1.toNat (Zay b r).2 i.l).1 },(Zay b (Zie b (Zay b r).1.toNat (Zay b r).2 i.l).2).2)
 else if form=6\/form=7 then({ i with a:=(Zay b r).1,b:=(Zay b (Zay b r).2).1 },(Zay b (Zay b r).2).2)
 else if form=8 then({ i with a:=(Zay b r).1,b:=(Zay b (Zay b r).2).1,lo:=(Zal b (Zay b (Zay b r).2).2).1 },(Zal b (Zay b (Zay b r).2).2).2)
 else if form=9 then({ i with lo:=(ZfH b 32 r).1%4294967296 },(ZfH b 32 r).2)
 else if form=10 then({ i with lo:=(ZfH b 64 r).1%18446744073709551616 },(ZfH b 64 r).2)
 else if form=11\/form=12 then({ i with lo:=lo (Zgp b 16 r).1,hi:=hi (Zgp b 16 r).1 },(Zgp b 16 r).2)
 else if form=13 then({ i with a:=(Zal b r).1 },(Zal b r).2)
 else if form=14 then(i,if(Zal b r).1≠0 then Zah (Zal b r).2 10 else(Zal b r).2)
 else(i,r)
def opS (b:List Int)(r:Rd):Int×Rd:=
 if(Zal b r).1=253 then(64768+(Zay b (Zal b r).2).1,(Zay b (Zal b r).2).2)
 else if(Zal b r).1=252 then(252,Zah (if(Zay b (Zal b r).2).1<=7 then Zah (Zay b (Zal b r).2).2 11 else(Zay b (Zal b r).2).2) 10)
 else Zal b r
def Zz3 (op:Int)(r:Rd):Rd:=if(ofS op).2=true then(if flS op=true then Zah r 11 else r)else Zah (if flS op=true then Zah r 11 else r) 10
def Zd9 (b:List Int)(op:Int)(r:Rd):Ins×Rd:=if r.err=0 then Zv b (ofS op).1.1 r ⟨op,0,0,0,0,[]⟩else(⟨op,0,0,0,0,[]⟩,r)
def Zbn (b:List Int)(r:Rd):Ins×Rd:=
 ((Zd9 b (opS b r).1 (Zz3 (opS b r).1 (opS b r).2)).1,
   if(Zd9 b (opS b r).1 (Zz3 (opS b r).1 (opS b r).2)).2.err=0/\2<=(opS b r).1/\(opS b r).1<=5 then ZbR (opS b r).1 (Zd9 b (opS b r).1 (Zz3 (opS b r).1 (opS b r).2)).2
   else(Zd9 b (opS b r).1 (Zz3 (opS b r).1 (opS b r).2)).2)
theorem Zz4 (bits:Int): ∀(xs:List Int) (k:Nat) (v at_:Int),bytes xs->bits<=64->7*(k:Int)<bits->0<=v->v<2^(7*k)->(uRd bits xs (7*k) v at_).2.2=0->
 0<=(uRd bits xs (7*k) v at_).1/\(uRd bits xs (7*k) v at_).1<2^bits.toNat/\at_<(uRd bits xs (7*k) v at_).2.1/\(uRd bits xs (7*k) v at_).2.1<=at_+xs.length
 |[],_,_,_,_,_,_,_,_,h=>by simp[uRd]at h
 |x::t,k,v,at_,hb,h64,hk,hv0,hv1,h=>by
  have hx:=hb x (List.mem_cons_self ..)
  rw[uRd]at h ⊢
  by_cases c:(bits-((7*k:Nat):Int)<7/\(x%128)/2^(bits-((7*k:Nat):Int)).toNat≠0)\/(bits-((7*k:Nat):Int)<=7/\x>=128)
  ·rw[if_pos c]at h;simp at h
  ·rw[if_neg c]at h ⊢
   have hl:bits-7*k<7->x%128/2^(bits-7*(k:Int)).toNat=0:=fun h7=>Classical.byContradiction fun hn=>c (.inl ⟨by omega,by rw[show(bits-((7*k:Nat):Int))=bits-7*(k:Int)by omega];exact hn⟩)
   have hlt:=ZzX hk (by omega) (by omega) hl
   have h2:=Zd5 hv0 hv1 (low:=x%128) (by omega) hlt
   have h3:(2:Int)^(7*k+min 7 (bits-7*k).toNat)<=2^bits.toNat:=by exact_mod_cast Nat.pow_le_pow_right (by decide) (by omega)
   have h4:(2:Int)^(7*k+min 7 (bits-7*k).toNat)<=2^(7*(k+1)):=by exact_mod_cast Nat.pow_le_pow_right (by decide) (by omega)
   by_cases h128:x<128
   ·rw[if_pos h128]at h ⊢
    simp only[Yag]
    omega
   ·rw[if_neg h128]at h ⊢
    have hk2:7*((k+1:Nat):Int)<bits:=by
      apply Classical.byContradiction;intro h;exact c (.inr ⟨by omega,by omega⟩)
    have:=Zz4 bits t (k+1) (v+x%128*2^(7*k)) (at_+1) (fun y hy=>hb y (Yaq _ hy)) h64 hk2 h2.1 (by omega) h
    simp only[Yag]
    rw[show 7*k+7=7*(k+1)by omega]
    omega
theorem ZcK {xs:List Int}(hb:bytes xs){p:Int}(h0:0<=p/\p<=xs.length)(h:(Zbg xs p 32).2.2=0):(0<=(Zbg xs p 32).1/\(Zbg xs p 32).1<4294967296)/\p<(Zbg xs p 32).2.1/\(Zbg xs p 32).2.1<=xs.length:=by
 unfold Zbg at h ⊢
 rw[if_neg (by omega)]at h ⊢
 have:=Zz4 32 (xs.drop p.toNat) 0 0 p (fun x hx=>hb x (List.mem_of_mem_drop hx)) (by omega) (by omega) (by omega) (by decide) h
 simp only[Yaw,Nat.mul_zero]at this
 have e:(2:Int)^(32:Int).toNat=4294967296:=by decide
 rw[e]at this
 omega
theorem Zu0 (bits:Int): ∀(xs:List Int) (d:Nat) (v at_:Int),(sRd bits xs d v at_).2.2=0->at_<(sRd bits xs d v at_).2.1/\(sRd bits xs d v at_).2.1<=at_+xs.length
 |[],_,_,_,h=>by simp[sRd]at h
 |x::t,d,v,at_,h=>by
  rw[sRd]at h ⊢
  split at h
  ·simp at h
  ·rename_i c
   rw[if_neg c]
   split at h
   ·rename_i c2
    rw[if_pos c2]
    simp only[Yag];omega
   ·rename_i c2
    rw[if_neg c2]
    have:=Zu0 bits t _ _ _ h
    simp only[Yag];omega
theorem ZgW {xs:List Int}{n p:Int}(hn:1<=n/\n<=64)(h0:0<=p/\p<=xs.length)(h:(Zak xs p n).2.2=0):p<(Zak xs p n).2.1/\(Zak xs p n).2.1<=xs.length:=by
 unfold Zak at h ⊢
 rw[if_neg (by omega)]at h ⊢
 have:=Zu0 n _ _ _ _ h
 rw[Yaw]at this;omega
theorem Zc9 {b:List Int}{r:Rd}(h:ZcB b r)(e:Int):ZcB b (Zah r e):=by
 unfold Zah;split
 ·exact⟨h.p0,h.p1⟩
 ·exact h
theorem Zix {b:List Int}{r:Rd}(h:ZcB b r):ZcB b (Zal b r).2:=by
 unfold Zal;split
 ·exact Zc9 h _
 ·have h0:=h.p0;have h1:=h.p1
  exact⟨by simp only;omega,by simp only;omega⟩
theorem Zfm {b:List Int}(hb:bytes b){r:Rd}(h:ZcB b r):ZcB b (Zay b r).2/\0<=(Zay b r).1/\(Zay b r).1<4294967296:=by
 unfold Zay;split
 ·exact⟨h,by simp⟩
 ·split
  ·exact⟨Zc9 h _,by simp⟩
  ·rename_i _ c
   have:=ZcK hb ⟨h.p0,h.p1⟩ (Classical.not_not.1 c)
   have h0:=h.p0
   exact⟨⟨by simp only;omega,this.2.2⟩,this.1⟩
theorem ZAS {b:List Int}{r:Rd}{n:Int}(hn:1<=n/\n<=64)(h:ZcB b r):ZcB b (ZfH b n r).2:=by
 unfold ZfH;split
 ·exact h
 ·split
  ·exact Zc9 h _
  ·rename_i _ c
   have:=ZgW hn ⟨h.p0,h.p1⟩ (Classical.not_not.1 c)
   have h0:=h.p0
   exact⟨by simp only;omega,this.2⟩
theorem ZfI {b:List Int}(hb:bytes b){r:Rd}(h:ZcB b r):byte (Zal b r).1:=by
 unfold Zal;split
 ·exact⟨Int.le_refl 0,by show(0:Int)<=255;decide⟩
 ·have h0:=h.p0;have h1:=h.p1
  exact hb _ (Zbw (by omega))
def ZrD (b:List Int)(op:Int)(r:Rd):Ins×Rd:=
 ((Zd9 b op (Zz3 op r)).1,if(Zd9 b op (Zz3 op r)).2.err=0/\2<=op/\op<=5 then ZbR op (Zd9 b op (Zz3 op r)).2 else(Zd9 b op (Zz3 op r)).2)
def Zqt (op:Int)(p:Ins×Rd):Ins×Rd:=(p.1,if p.2.err=0/\2<=op/\op<=5 then ZbR op p.2 else p.2)
def ZlW (op:Int)(r:Rd):Rd:=if flS op=true then Zah r 11 else r
def ZlX (op:Int)(r:Rd):Rd:=if(ofS op).2=true then r else Zah r 10
theorem ZeH (b:List Int)(op:Int)(r:Rd):ZrD b op r=Zqt op (Zd9 b op (ZlX op (ZlW op r))):=rfl
theorem ZgX (b:List Int)(r:Rd):Zbn b r=ZrD b (opS b r).1 (opS b r).2:=rfl
theorem Za1 (r:Rd)(e:Int):(Zah r e).op=r.op:=by unfold Zah;split<;>rfl
theorem ZeI (b:List Int)(r:Rd):(Zal b r).2.op=r.op:=by
 unfold Zal;split
 ·exact Za1 _ _
 ·rfl
theorem ZhO (b:List Int)(r:Rd):(Zay b r).2.op=r.op:=by
 unfold Zay;split
 ·rfl
 ·split
  ·exact Za1 _ _
  ·rfl
theorem ZoK (b:List Int)(n:Int)(r:Rd):(ZfH b n r).2.op=r.op:=by
 unfold ZfH;split
 ·rfl
 ·split
  ·exact Za1 _ _
  ·rfl
theorem Zyv (b:List Int)(r:Rd):(ZfY b r).2.op=r.op:=by
 have hN:(Zjw b r).2.op=r.op:=by
  unfold Zjw;simp only;split
  ·rw[Za1,ZoK]
  ·exact ZoK _ _ _
 unfold ZfY
 split
 ·split
  ·rfl
  ·split
   ·exact Za1 _ _
   ·exact hN
 ·exact hN
theorem Zu1 (b:List Int): ∀(n:Nat) (r:Rd) (l:List Int),(Zie b n r l).2.op=r.op
 |0,_,_=>rfl
 |n+1,r,l=>by
  rw[Zie];split
  ·rw[Zu1 b n,ZhO]
  ·rfl
theorem Zu2 (b:List Int): ∀(n:Nat) (r:Rd),(Zgp b n r).2.op=r.op
 |0,_=>rfl
 |n+1,r=>by rw[Zgp];simp only;rw[Zu2 b n,ZeI]
theorem Zkv (b:List Int)(form:Int)(r:Rd)(i:Ins):(Zv b form r i).2.op=r.op:=by
 unfold Zv
 repeat' split
 all_goals first
  |rfl
  |exact Zyv _ _
  |exact ZhO _ _
  |exact ZoK _ _ _
  |exact ZeI _ _
  |exact Zu2 _ _ _
  |(simp only[ZhO,Zu1,ZeI,Za1];done)
end Go.Proofs.YtimhmpdfioihlaaGreatDoor
namespace Go.Proofs.YtimhmpdfioihlaaGreatDoor
set_option maxRecDepth 20000
open Go Go.Abs Nat
section
theorem Zu3 {k:IntKind}{xs:List Int}{n:Nat}(h:n<xs.length):(Zi k xs).getD n .any= .int k (xs.getD n 0):=by
 simp[Zi,Yah,h]
attribute [local irreducible] AW AWL AC FW CW CWr IntKind.wrap
open MB
theorem ZFl.cl {p:Prop}(h:p:=by
 first
  |refine AWL.cM (f:=155) [(0,0),(1002,1002)] ZkS rfl rfl rfl rfl rfl rfl rfl (hfail) ?_
 all_goals(apply_rules (newGoals:= .nonDependentOnly) only[dep];exact())):p:=h
open Zgn Zm in
theorem Za9 (b:List Int)(r:Rd)(e:Int):AM Tryz.prog 155 [.ptr 0 0,.int .i64 e] (rdM 0 1002 b r) [0] (fun v m=>v= .tup []/\m=rdM 0 1002 b (Zah r e)):=by
 obtain⟨p,o,j,er⟩:=r
 unfold rdM
 refine AM.enter Tryz.func155 rfl (Yaa rfl) (fun pn=> ?_)
 simp only[Tryz.f155]
 by_cases h:er=0
 ·subst h
  have nx:=trivial
  refine' Zio
  all_goals first|exact⟨trivial,trivial⟩|exact⟨rfl,trivial⟩|exact⟨rfl,rfl⟩|exact⟨trivial,rfl⟩|(exfalso;omega)|trace_state
 ·have h1:Zah ⟨p,o,j,er⟩ e=⟨p,o,j,er⟩:=if_neg h
  have nx:=aI @h1 trivial
  refine' Zio
  all_goals first|exact⟨trivial,trivial⟩|exact⟨rfl,trivial⟩|exact⟨rfl,rfl⟩|exact⟨trivial,rfl⟩|(exfalso;omega)|trace_state
open ZeA Zm in
theorem ZrE (b:List Int)(r:Rd)(hl:r.op.length<=1000000):AM Tryz.prog 144 [.ptr 0 0] (rdM 0 1002 b r) [0] (fun v m=>v= .bool (ZeW r).1/\m=rdM 0 1002 b (ZeW r).2):=by
 obtain⟨p,o,j,er⟩:=r
 simp only at hl
 unfold rdM
 refine AM.enter Tryz.func144 rfl (Yaa rfl) (fun pn=> ?_)
 simp only[Tryz.f144]
 by_cases h:o.length=0
 ·have h1:ZeW ⟨p,o,j,er⟩=(true,⟨p,o,j,er⟩):=if_pos h
  have nx:=aI @h1 trivial
  refine' Zio
  all_goals first|exact⟨trivial,trivial⟩|exact⟨rfl,trivial⟩|exact⟨rfl,rfl⟩|exact⟨trivial,rfl⟩|(exfalso;omega)|trace_state
 ·have h1:ZeW ⟨p,o,j,er⟩=(false,⟨p,o.take (o.length-1),o.drop (o.length-1)++j,er⟩):=if_neg h
  have h2:IntKind.i64.wrap ((o.length:Int)-1)=((o.length-1:Nat):Int):=by rw[Zc _ (by omega) (by omega)];omega
  have h3:(o.take (o.length-1)).length=o.length-1:=by rw[Yar];omega
  have h4:o.take (o.length-1)++(o.drop (o.length-1)++j)=o++j:=by rw[<- Ya6,List.take_append_drop]
  have nx:=aI @h1 (aI @h2 (aI @h3 (aI @h4 trivial)))
  refine' Zio
  all_goals first|exact⟨trivial,trivial⟩|exact⟨rfl,trivial⟩|exact⟨rfl,rfl⟩|exact⟨trivial,rfl⟩|(exfalso;omega)|trace_state
open ZFl ZAD Zm in
theorem ZrF (b:List Int)(r:Rd)(hl:r.op.length<=1000000)(op:Int):AM Tryz.prog 158 [.ptr 0 0,.int .i64 op] (rdM 0 1002 b r) [0] (fun v m=>v= .tup []/\m=rdM 0 1002 b (ZbR op r)):=by
 obtain⟨p,o,j,er⟩:=r
 simp only at hl
 have hfail:True:=trivial
 unfold rdM
 refine AM.enter Tryz.func158 rfl (Yaa rfl) (fun pn=> ?_)
 simp only[Tryz.f158]
 by_cases h5:op=5
 ·subst h5
  have hfail:=Za9 b ⟨p,o,j,er⟩ 10
  by_cases h0:o.length=0
  ·have h1:ZbR 5 ⟨p,o,j,er⟩=Zah ⟨p,o,j,er⟩ 10:=by unfold ZbR;rw[if_neg (fun h=>h rfl),if_pos (.inl h0)]
   rw[h1]
   unfold rdM at hfail
   generalize Zah ⟨p,o,j,er⟩ 10=r2 at hfail
   obtain⟨p2,o2,j2,e2⟩:=r2
   have nx:=trivial
   refine' ZgQ
   all_goals first|exact⟨trivial,trivial⟩|exact⟨rfl,trivial⟩|exact⟨rfl,rfl⟩|exact⟨trivial,rfl⟩|(exfalso;omega)|trace_state
  ·have h2:IntKind.i64.wrap ((o.length:Int)-1)=((o.length-1:Nat):Int):=by rw[Zc _ (by omega) (by omega)];omega
   have h3:(o++j).getD (o.length-1) 0=o.getD (o.length-1) 0:=by simp only[Yah];rw[Ya1 (by omega)]
   have hA:(Zi .i64 (o++j)).getD (o.length-1) .any= .int .i64 (o.getD (o.length-1) 0):=by rw[<- h3];exact Zu3 (by rw[Yal];omega)
   by_cases h4:o.getD (o.length-1) 0=4
   ·have h1:ZbR 5 ⟨p,o,j,er⟩=⟨p,o.take (o.length-1)++[5],j,er⟩:=by
     unfold ZbR;rw[if_neg (fun h=>h rfl),if_neg (fun h=>h.elim h0 (fun h=>h h4))]
    have h6:(o.take (o.length-1)++[5]).length=o.length:=by rw[Yal,Yar];simp only[Yag,List.length_nil];omega
    have h7:ZnO (o++j) (o.length-1) 5=o.take (o.length-1)++[5]++j:=by
     unfold ZnO
     rw[List.take_append_of_le_length (by omega),List.drop_append,Ya7 (by omega),List.nil_append,show o.length-1+1-o.length=0 by omega];rfl
    have nx:=aI @h1 (aI @h2 (aI @hA (aI @h4 (aI @h6 (aI @h7 trivial)))))
    refine' ZgQ
    all_goals first|exact⟨trivial,trivial⟩|exact⟨rfl,trivial⟩|exact⟨rfl,rfl⟩|exact⟨trivial,rfl⟩|(exfalso;omega)|trace_state
   ·have h1:ZbR 5 ⟨p,o,j,er⟩=Zah ⟨p,o,j,er⟩ 10:=by unfold ZbR;rw[if_neg (fun h=>h rfl),if_pos (.inr h4)]
    rw[h1]
    unfold rdM at hfail
    generalize Zah ⟨p,o,j,er⟩ 10=r2 at hfail
    obtain⟨p2,o2,j2,e2⟩:=r2
    have nx:=aI @h2 (aI @hA trivial)
    refine' ZgQ
    all_goals first|exact⟨trivial,trivial⟩|exact⟨rfl,trivial⟩|exact⟨rfl,rfl⟩|exact⟨trivial,rfl⟩|(exfalso;omega)|trace_state
 ·have h6:(o++[op]).length=o.length+1:=by simp
  by_cases h128:o.length=128
  ·have h1:ZbR op ⟨p,o,j,er⟩={ Zah ⟨p,o,j,er⟩ 3 with op:=o++[op],jk:=[] }:=by unfold ZbR;rw[if_pos h5];simp only[if_pos h128]
   have hfail:=Za9 b ⟨p,o,j,er⟩ 3
   have hfo:(Zah ⟨p,o,j,er⟩ 3).op=o/\(Zah ⟨p,o,j,er⟩ 3).jk=j:=by unfold Zah;split<;>exact⟨rfl,rfl⟩
   rw[h1]
   unfold rdM at hfail
   generalize Zah ⟨p,o,j,er⟩ 3=r2 at hfail hfo
   obtain⟨p2,o2,j2,e2⟩:=r2
   obtain⟨rfl,rfl⟩:=hfo
   have nx:=aI @h6 (aI @List.take_left.{0} trivial)
   refine' ZgQ
   all_goals first|exact⟨trivial,trivial⟩|exact⟨rfl,trivial⟩|exact⟨rfl,rfl⟩|exact⟨trivial,rfl⟩|(exfalso;omega)|trace_state
  ·have h1:ZbR op ⟨p,o,j,er⟩=⟨p,o++[op],[],er⟩:=by unfold ZbR;rw[if_pos h5];simp only[if_neg h128]
   have nx:=aI @h1 (aI @h6 (aI @List.take_left.{0} trivial))
   refine' ZgQ
   all_goals first|exact⟨trivial,trivial⟩|exact⟨rfl,trivial⟩|exact⟨rfl,rfl⟩|exact⟨trivial,rfl⟩|(exfalso;omega)|trace_state
end
section
theorem Zu4 {x:Int}(h:byte x):IntKind.u64.wrap x=x:=by unfold byte at h;exact Zb0 rfl h.1 (by show x<(2:Int)^64;omega)
theorem ZdH {l:List Int}(hb:bytes l)(i:Nat)(hi:i<8)(hl:i<l.length):Zt .or .u64 (le (l.take i)) (IntKind.u64.wrap (IntKind.u64.wrap (l.getD i 0)*2^min (8*i) IntKind.u64.bits))=le (l.take (i+1)):=by
 have hc:=ZaI hb hl
 have hx:=ZdE (ZbF hb i)
 rw[Yar,Nat.min_eq_left (by omega)]at hx
 have e1:=ZGG hc hi
 rw[show(8*(i:Int)).toNat=8*i by omega]at e1
 rw[Zu4 hc,e1,or8 hx hc hi,Zlh hl]
attribute [local irreducible] AW AWL AC FW CW CWr IntKind.wrap
open MB
open Zjn ZdR in
theorem Zgq (l:List Int)(hb:bytes l)(h8:8<=l.length)(hl:l.length<=1000000000):AC Tryz.prog 114 [.view l.length 1 (Zi .u8 l)] (fun r m=>r= .int .u64 (le (l.take 8))/\m=[]):=by
 have x0:=ZaI hb (show 0<l.length by omega)
 have x1:=ZaI hb (show 1<l.length by omega)
 have x2:=ZaI hb (show 2<l.length by omega)
 have x3:=ZaI hb (show 3<l.length by omega)
 have x4:=ZaI hb (show 4<l.length by omega)
 have x5:=ZaI hb (show 5<l.length by omega)
 have x6:=ZaI hb (show 6<l.length by omega)
 have x7:=ZaI hb (show 7<l.length by omega)
 have w0:IntKind.u64.wrap (l.getD 0 0)=le (l.take 1):=by rw[Zu4 x0,Zlh (show 0<l.length by omega)];simp[le]
 have w1:Zt .or .u64 (le (l.take 1)) (IntKind.u64.wrap (IntKind.u64.wrap (l.getD 1 0)*2^min 8 IntKind.u64.bits))=le (l.take 2):=ZdH hb 1 (by omega) (by omega)
 have w2:Zt .or .u64 (le (l.take 2)) (IntKind.u64.wrap (IntKind.u64.wrap (l.getD 2 0)*2^min 16 IntKind.u64.bits))=le (l.take 3):=ZdH hb 2 (by omega) (by omega)
 have w3:Zt .or .u64 (le (l.take 3)) (IntKind.u64.wrap (IntKind.u64.wrap (l.getD 3 0)*2^min 24 IntKind.u64.bits))=le (l.take 4):=ZdH hb 3 (by omega) (by omega)
 have w4:Zt .or .u64 (le (l.take 4)) (IntKind.u64.wrap (IntKind.u64.wrap (l.getD 4 0)*2^min 32 IntKind.u64.bits))=le (l.take 5):=ZdH hb 4 (by omega) (by omega)
 have w5:Zt .or .u64 (le (l.take 5)) (IntKind.u64.wrap (IntKind.u64.wrap (l.getD 5 0)*2^min 40 IntKind.u64.bits))=le (l.take 6):=ZdH hb 5 (by omega) (by omega)
 have w6:Zt .or .u64 (le (l.take 6)) (IntKind.u64.wrap (IntKind.u64.wrap (l.getD 6 0)*2^min 48 IntKind.u64.bits))=le (l.take 7):=ZdH hb 6 (by omega) (by omega)
 have w7:Zt .or .u64 (le (l.take 7)) (IntKind.u64.wrap (IntKind.u64.wrap (l.getD 7 0)*2^min 56 IntKind.u64.bits))=le (l.take 8):=ZdH hb 7 (by omega) (by omega)
 refine AC.enter Tryz.func114 rfl (Yaa rfl) ?_
 simp only[Tryz.f114]
 have nx:=aI @w0 (aI @w1 (aI @w2 (aI @w3 (aI @w4 (aI @w5 (aI @w6 (aI @w7 trivial)))))))
 refine' Zqi
 all_goals first|exact⟨trivial,trivial⟩|exact⟨rfl,trivial⟩|exact⟨rfl,rfl⟩|exact⟨trivial,rfl⟩|(exfalso;omega)|trace_state
end
end Go.Proofs.YtimhmpdfioihlaaGreatDoor
namespace Go.Proofs.YtimhmpdfioihlaaGreatDoor
set_option maxRecDepth 20000
open Go Go.Abs
def Zav (b:List Int)(p:Int):Int×Int:=if(Zbg b p 32).2.2≠0 then(0, -1)else((Zbg b p 32).1,(Zbg b p 32).2.1)
def ZwG (op p:Int):Int×Int×Int:=if flS op=true then(0,0,11)else if(ofS op).2=true then(op,p,0)else(0,0,10)
def Zct (b:List Int)(p:Int):Int×Int×Int:=
 if p>=b.length then(0,0,10)
 else if b.getD p.toNat 0=252\/b.getD p.toNat 0=253 then
  if(Zav b (p+1)).2<0 then(0,0,10)
  else if b.getD p.toNat 0=252/\(Zav b (p+1)).1<=7 then(0,0,11)
  else if b.getD p.toNat 0=252\/(Zav b (p+1)).1>255 then(0,0,10)
  else ZwG (64768+(Zav b (p+1)).1) (Zav b (p+1)).2
 else ZwG (b.getD p.toNat 0) (p+1)
def ZoL (b:List Int)(p:Int):Int×Int×Int:=
 if p<b.length/\ZdG (b.getD p.toNat 0)then(0,0,11)
 else if p<b.length/\ZfX (b.getD p.toNat 0)then(b.getD p.toNat 0-128,p+1,0)
 else if(Zak b p 33).2.2≠0\/(Zak b p 33).1<0 then(0,0,10)
 else((Zak b p 33).1,(Zak b p 33).2.1,0)
def ZFm:Ins:=⟨0,0,0,0,0,[]⟩
def Zgr (i:Ins)(p:Int):Ins×Int×Int:=if p<0 then(ZFm,0,10)else(i,p,0)
def tbR (b:List Int):Nat->Int->List Int->List Int×Int
 |0,p,l=>(l,p)
 |n+1,p,l=>if p>=0 then tbR b n (Zav b p).2 (l++[(Zav b p).1])else(l,p)
def Zbv (b:List Int)(p:Int):Int×Int:=if p>=0 then Zav b p else(0,p)
def Zu5 (b:List Int)(p:Int)(i:Ins)(form:Int):Ins×Int×Int:=
 if form=11\/form=12 then
  if(b.length:Int)-p<16 then(ZFm,0,10)
  else({ i with lo:=lo ((b.drop p.toNat).take 16),hi:=hi ((b.drop p.toNat).take 16) },p+16,0)
 else if p>=b.length\/(form=14/\b.getD p.toNat 0≠0)then(ZFm,0,10)
 else(if form=13 then{ i with a:=b.getD p.toNat 0 }else i,p+1,0)
def Zsl (b:List Int)(p:Int)(i:Ins)(form:Int):Ins×Int×Int:=
 if form=1 then(i,p,0)
 else if form=2 then({ i with a:=(ZoL b p).1 },(ZoL b p).2.1,(ZoL b p).2.2)
 else if form=4 then
  Zgr { i with l:=(tbR b (Zav b p).1.toNat (Zav b p).2 []).1,a:=(Zbv b (tbR b (Zav b p).1.toNat (Zav b p).2 []).2).1 } (Zbv b (tbR b (Zav b p).1.toNat (Zav b p).2 []).2).2
 else if form=3\/form=5 then Zgr { i with a:=(Zav b p).1 } (Zav b p).2
 else if form=6\/form=7 then Zgr { i with a:=(Zav b p).1,b:=(Zbv b (Zav b p).2).1 } (Zbv b (Zav b p).2).2
 else if form=8 then
  if(Zbv b (Zav b p).2).2>=b.length then({ i with a:=(Zav b p).1,b:=(Zbv b (Zav b p).2).1 },0,10)
  else if(Zbv b (Zav b p).2).2>=0 then Zgr { i with a:=(Zav b p).1,b:=(Zbv b (Zav b p).2).1,lo:=b.getD (Zbv b (Zav b p).2).2.toNat 0 } ((Zbv b (Zav b p).2).2+1)
  else Zgr { i with a:=(Zav b p).1,b:=(Zbv b (Zav b p).2).1 } (Zbv b (Zav b p).2).2
 else if form=9 then Zgr { i with lo:=(Zak b p 32).1%4294967296 } (if(Zak b p 32).2.2≠0 then -1 else(Zak b p 32).2.1)
 else if form=10 then Zgr { i with lo:=(Zak b p 64).1%18446744073709551616 } (if(Zak b p 64).2.2≠0 then -1 else(Zak b p 64).2.1)
 else Zu5 b p i form
theorem ZhP {b:List Int}(hb:bytes b){p:Int}(h:0<=p/\p<=b.length):(0<=(Zav b p).1/\(Zav b p).1<4294967296)/\((Zav b p).2= -1\/(p<(Zav b p).2/\(Zav b p).2<=b.length)):=by
 unfold Zav;split
 ·exact⟨⟨Int.le_refl 0,by show(0:Int)<4294967296;decide⟩,.inl rfl⟩
 ·rename_i c
  have:=ZcK hb h (Classical.not_not.1 c)
  exact⟨this.1,.inr this.2⟩
def Zaq:List Int->List Ins->Bool
 |_,[]=>false
 |o,i::t=>
  if i.op=2\/i.op=3\/i.op=4 then(if o.length=128 then false else Zaq (o++[i.op]) t)
  else if i.op=5 then(if o.length=0\/o.getD (o.length-1) 0≠4 then false else Zaq (o.take (o.length-1)++[5]) t)
  else if i.op=11 then(if o.length=0 then decide (t.length=0)else Zaq (o.take (o.length-1)) t)
  else Zaq o t
theorem Zh4 {o:List Int}{i:Ins}{t:List Ins}{A:Bool}(h:Zaq o (i::t)=A) :
 ((i.op=2\/i.op=3\/i.op=4)/\o.length=128/\A=false)\/((i.op=2\/i.op=3\/i.op=4)/\o.length≠128/\Zaq (o++[i.op]) t=A)\/
 (i.op=5/\o.length=0/\A=false)\/(i.op=5/\(o.length≠0/\o.getD (o.length-1) 0≠4)/\A=false)\/(i.op=5/\(o.length≠0/\o.getD (o.length-1) 0=4)/\Zaq (o.take (o.length-1)++[5]) t=A)\/
 (i.op=11/\o.length=0/\A=decide (t.length=0))\/(i.op=11/\o.length≠0/\Zaq (o.take (o.length-1)) t=A)\/
 ((i.op≠2/\i.op≠3/\i.op≠4/\i.op≠5/\i.op≠11)/\Zaq o t=A):=by
 rw[Zaq]at h
 by_cases h2:i.op=2\/i.op=3\/i.op=4
 ·rw[if_pos h2]at h
  by_cases h1:o.length=128
  ·rw[if_pos h1]at h;exact .inl ⟨h2,h1,h.symm⟩
  ·rw[if_neg h1]at h;exact .inr (.inl ⟨h2,h1,h⟩)
 ·rw[if_neg h2]at h
  by_cases h5:i.op=5
  ·rw[if_pos h5]at h
   by_cases h0:o.length=0
   ·rw[if_pos (.inl h0)]at h;exact .inr (.inr (.inl ⟨h5,h0,h.symm⟩))
   ·by_cases h4:o.getD (o.length-1) 0=4
    ·rw[if_neg (fun h=>h.elim h0 (fun h=>h h4))]at h;exact .inr (.inr (.inr (.inr (.inl ⟨h5,⟨h0,h4⟩,h⟩))))
    ·rw[if_pos (.inr h4)]at h;exact .inr (.inr (.inr (.inl ⟨h5,⟨h0,h4⟩,h.symm⟩)))
  ·rw[if_neg h5]at h
   by_cases h11:i.op=11
   ·rw[if_pos h11]at h
    by_cases h0:o.length=0
    ·rw[if_pos h0]at h;exact .inr (.inr (.inr (.inr (.inr (.inl ⟨h11,h0,h.symm⟩)))))
    ·rw[if_neg h0]at h;exact .inr (.inr (.inr (.inr (.inr (.inr (.inl ⟨h11,h0,h⟩))))))
   ·rw[if_neg h11]at h
    exact .inr (.inr (.inr (.inr (.inr (.inr (.inr ⟨by omega,h⟩))))))
def Zcu (n:Int):Bool:=decide (0<=n/\n<4294967296)
def zq4 (a b lo hi:Int):Bool:=decide (a=0/\b=0/\lo=0/\hi=0)
def ZdT (i:Ins)(form:Int):Bool:=
 if form≠4/\i.l.length>0 then false
 else if form=2\/form=3\/form=5\/form=4\/form=13 then zq4 0 i.b i.lo i.hi
 else if form=6\/form=7 then zq4 0 0 i.lo i.hi
 else if form=8 then zq4 0 0 0 i.hi
 else if form=9\/form=10 then zq4 i.a i.b 0 i.hi
 else if form=11\/form=12 then zq4 i.a i.b 0 0
 else zq4 i.a i.b i.lo i.hi
def uB (n:Int):List Int:=ZhK (n%18446744073709551616).toNat
def i32 (n:Int):Int:=IntKind.i32.wrap n
def i64 (n:Int):Int:=IntKind.i64.wrap n
theorem ZAT (n:Int): -2147483648<=i32 n/\i32 n<=2147483647:=by
 unfold i32
 show -2147483648<=(if(true&&decide (n%4294967296>=2147483648))=true then n%4294967296-4294967296 else n%4294967296)/\(if(true&&decide (n%4294967296>=2147483648))=true then n%4294967296-4294967296 else n%4294967296)<=2147483647
 split
 ·rename_i c;simp at c;omega
 ·rename_i c;simp at c;omega
theorem ZAU (n:Int): -9223372036854775808<=i64 n/\i64 n<=9223372036854775807:=by
 unfold i64
 show -9223372036854775808<=(if(true&&decide (n%18446744073709551616>=9223372036854775808))=true then n%18446744073709551616-18446744073709551616 else n%18446744073709551616)/\(if(true&&decide (n%18446744073709551616>=9223372036854775808))=true then n%18446744073709551616-18446744073709551616 else n%18446744073709551616)<=9223372036854775807
 split
 ·rename_i c;simp at c;omega
 ·rename_i c;simp at c;omega
def Zam (out:List Int)(i:Ins)(form:Int):List Int×Bool:=
 if form=9 then(out++ZdD (i32 i.lo),decide (i.lo<4294967296))
 else if form=10 then(out++ZdD (i64 i.lo),true)
 else if form=13 then(out++[i.a%256],decide (0<=i.a/\i.a<256))
 else if form=14 then(out++[0],true)
 else(out++join i.lo i.hi,true)
def opB (op:Int):List Int:=if op>=64768 then 253::uB (op-64768)else[op%256]
def Zif (i:Ins)(form:Int):List Int×Bool:=
 if form=1 then(opB i.op,true)
 else if form=2 then(if i.a= -64\/i.a= -1\/i.a= -2\/i.a= -5 then(opB i.op++[(i.a+128)%256],true)else(opB i.op++ZdD i.a,Zcu i.a))
 else if form=3\/form=5 then(opB i.op++uB i.a,Zcu i.a)
 else if form=4 then(opB i.op++uB i.l.length++i.l.flatMap uB++uB i.a,i.l.all Zcu&&Zcu i.a)
 else if form=6\/form=7 then(opB i.op++uB i.a++uB i.b,Zcu i.a&&Zcu i.b)
 else if form=8 then(opB i.op++uB i.a++uB i.b++[i.lo%256],Zcu i.a&&Zcu i.b&&decide (i.lo<256))
 else Zam (opB i.op) i form
def Zdo (i:Ins):List Int×Bool:=if(ofS i.op).2=true/\ZdT i (ofS i.op).1.1=true then Zif i (ofS i.op).1.1 else([],false)
def ZwH (code:List Ins):Bool:=code.all fun i=>(Zdo i).2
def ZeJ (code:List Ins):List Int:=code.flatMap fun i=>(Zdo i).1
def Zw (code:List Ins):List Int×Int:=if Zaq [] code=true/\ZwH code=true then(ZeJ code,0)else([],1)
structure ZbM (i:Ins):Prop where
 op: -9223372036854775808<=i.op/\i.op<=9223372036854775807
 a: -9223372036854775808<=i.a/\i.a<=9223372036854775807
 b: -9223372036854775808<=i.b/\i.b<=9223372036854775807
 lo:0<=i.lo/\i.lo<18446744073709551616
 hi:0<=i.hi/\i.hi<18446744073709551616
 l: ∀x∈i.l, -9223372036854775808<=x/\x<=9223372036854775807
 n:i.l.length<=100000000
end Go.Proofs.YtimhmpdfioihlaaGreatDoor
