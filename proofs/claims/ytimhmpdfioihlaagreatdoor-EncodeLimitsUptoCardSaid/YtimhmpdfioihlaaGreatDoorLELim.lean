/- EncodeLimits. -/
import Derived.Test.YtimhmpdfioihlaaGreatDoorDP
import Derived.Test.YtimhmpdfioihlaaGreatDoorLSt
import Derived.Test.YtimhmpdfioihlaaGreatDoorGV6
import Derived.Test.YtimhmpdfioihlaaGreatDoorGCB
import Derived.Test.YtimhmpdfioihlaaGreatDoorLGL
import Derived.Test.YtimhmpdfioihlaaGreatDoorLELE
import Derived.Test.YtimhmpdfioihlaaGreatDoorLELq
import Derived.Test.YtimhmpdfioihlaaGreatDoorSMod
import Derived.Test.YtimhmpdfioihlaaGreatDoorLMD
import Derived.Test.YtimhmpdfioihlaaGreatDoorGENSElem
import Derived.Test.YtimhmpdfioihlaaGreatDoorUnF
import Derived.Test.YtimhmpdfioihlaaGreatDoorATSM
set_option linter.unusedSimpArgs false
set_option linter.unusedVariables false
namespace Go.Proofs.YtimhmpdfioihlaaGreatDoor
set_option maxRecDepth 20000
open Go Go.Abs Nat
attribute [local irreducible] AW AWL AC FW CW CWr IntKind.wrap
def ZB7:List Int:=[256,512,512,512,1024,512,32,32]
def LM (mo k:Int)(n i nt ni nf ne nc:Nat):St:={ n:=188,slots:=[(1,.int .u8 mo),(5,.ptr 5 0),(7,.int .i64 k),(8,.int .i64 n),(9,.int .i64 i)],mem:=[(5,⟨false,[.ref 6000 0 nt 2,.ref 6001 0 ni 3,.ref 6002 0 nf 1,.ref 6003 0 0 2,.ref 6004 0 0 2,.ref 6005 0 0 3,.ref 6006 0 ne 3,.int .i64 (-1),.ref 6008 0 0 2,.ref 6009 0 nc 2,.ref 6010 0 0 2]⟩),(6000,⟨true,rp [.nils,.nils] nt⟩),(6001,⟨true,rp [.str [],.str [],.int .i64 0] ni⟩),(6002,⟨true,rp [.int .i64 0] nf⟩),(6003,⟨true,[]⟩),(6004,⟨true,[]⟩),(6005,⟨true,[]⟩),(6006,⟨true,rp [.str [],.int .i64 0,.int .i64 0] ne⟩),(6008,⟨true,[]⟩),(6009,⟨true,rp [.nils,.view 1 6 [.int .i64 11,.int .i64 0,.int .i64 0,.int .u64 0,.int .u64 0,.nils]] nc⟩),(6010,⟨true,[]⟩)] }
def L5 (mo:Int)(n j:Nat)(L:V)(X:Mem):St:={ n:=188,slots:=[(1,.int .u8 mo),(5,.ptr 5 0),(7,.int .i64 5),(8,.int .i64 (n:Int)),(10,.int .i64 (j:Int))],mem:=[(5,⟨false,[.view 1 2 [.nils,.nils],.view 0 3 [],.view 1 1 (Zi .i64 [0]),.view 0 2 [],.view 0 2 [],.view 0 3 [],.view 0 3 [],.int .i64 (-1),.view 0 2 [],.ref 96 0 1 2,.view 0 2 []]⟩),(96,⟨false,[L,.view 1 6 [.int .i64 11,.int .i64 0,.int .i64 0,.int .u64 0,.int .u64 0,.nils]]⟩)]++X }
def L6 (mo K:Int)(n j:Nat)(l:List Int):St:={ n:=188,slots:=[(1,.int .u8 mo),(5,.ptr 5 0),(7,.int .i64 K),(8,.int .i64 (n:Int)),(11,.ref 11 0 n 1),(12,.int .i64 (j:Int))],mem:=[(5,⟨false,[.ref 6000 0 1 2,.ref 6001 0 0 3,.ref 6002 0 0 1,.ref 6003 0 0 2,.ref 6004 0 0 2,.ref 6005 0 0 3,.ref 6006 0 0 3,.int .i64 (-1),.ref 6008 0 0 2,.ref 6009 0 0 2,.ref 6010 0 0 2]⟩),(11,⟨true,Zi .i64 l⟩),(6000,⟨true,[.nils,.nils]⟩),(6001,⟨true,[]⟩),(6002,⟨true,[]⟩),(6003,⟨true,[]⟩),(6004,⟨true,[]⟩),(6005,⟨true,[]⟩),(6006,⟨true,[]⟩),(6008,⟨true,[]⟩),(6009,⟨true,[]⟩),(6010,⟨true,[]⟩)] }
def RL (K:Int)(i nt ni nf ne nc:Nat):Prop:=(K=0->(1<=i/\nt=i)\/(i=0/\nt=1))/\(K≠0->nt=1)/\(K=1->ni=i)/\(K≠1->ni=0)/\(K=2->nf=i/\nc=i)/\(K≠2->nf=0/\nc=0)/\(K=3->ne=i)/\(K≠3->ne=0)
theorem ZEd.NM:type_of% @NSX/\type_of% @St.keepS.eq_1/\type_of% @TY/\type_of% @ZGK/\type_of% @Zb/\type_of% @LM.eq_1/\type_of% @ZB7.eq_1/\type_of% @L5.eq_1/\type_of% @L6.eq_1:=
 ⟨NSX,St.keepS.eq_1,@TY,@ZGK,@Zb,@LM.eq_1,@ZB7.eq_1,@L5.eq_1,@L6.eq_1⟩
open ZEd
theorem ZlT.kp:type_of% (@Z2 [0,1,4,5,6,7,8,9,10,11,12,13,14,15,16,38]):= @Z2 [0,1,4,5,6,7,8,9,10,11,12,13,14,15,16,38]
theorem ZlT.cl {p:Prop}(h:p:=by
 first
  |refine AWL.frzG rfl rfl rfl ?_
  |refine AWL.cC (f:=9) cb9 rfl rfl rfl rfl rfl rfl (ZjQ) ?_
 all_goals(apply_rules (newGoals:= .nonDependentOnly) only[dep];exact())):p:=h
theorem ZlT.sd {p:Prop}(h:p:=by first|exact Zxe):p:=h
open ZlT in
set_option maxHeartbeats 3200000 in
theorem ZGj (kd mo:Int)(hk:byte kd)(hm:byte mo):AC Tryz.prog 7 [.int .u8 kd,.int .u8 mo] (fun r mm=>r= .bool true/\mm=[]):=by
 obtain⟨k,hk8⟩: ∃k:Nat,kd.tmod 8=(k:Int)/\k<8:=by
  refine⟨(kd%8).toNat,?_,by omega⟩
  rw[Int.tmod_eq_emod_of_nonneg hk.1];omega
 obtain⟨m1,hm1⟩: ∃m1:Nat,mo.tmod 2=(m1:Int)/\m1<2:=by
  refine⟨(mo%2).toNat,?_,by omega⟩
  rw[Int.tmod_eq_emod_of_nonneg hm.1];omega
 obtain⟨hk8,hkl⟩:=hk8
 obtain⟨hm1,hml⟩:=hm1
 have e1:IntKind.i64.wrap (k:Int)=(k:Int):=Zc _ (by omega) (by omega)
 have e2:IntKind.i64.wrap (m1:Int)=(m1:Int):=Zc _ (by omega) (by omega)
 obtain⟨n0,hn0⟩: ∃n0:Nat,ZB7.getD k 0=(n0:Int)/\n0<=1024:=by
  have:k=0\/k=1\/k=2\/k=3\/k=4\/k=5\/k=6\/k=7:=by omega
  rcases this with rfl|rfl|rfl|rfl|rfl|rfl|rfl|rfl
  all_goals first|exact⟨256,rfl,by omega⟩|exact⟨512,rfl,by omega⟩|exact⟨1024,rfl,by omega⟩|exact⟨32,rfl,by omega⟩
 obtain⟨hn0,hnl⟩:=hn0
 have e3:[V.int IntKind.i64 256,V.int IntKind.i64 512,V.int IntKind.i64 512,V.int IntKind.i64 512,V.int IntKind.i64 1024,V.int IntKind.i64 512,V.int IntKind.i64 32,V.int IntKind.i64 32].getD k V.any= .int .i64 n0:=by
  rw[<- hn0]
  have:k=0\/k=1\/k=2\/k=3\/k=4\/k=5\/k=6\/k=7:=by omega
  rcases this with rfl|rfl|rfl|rfl|rfl|rfl|rfl|rfl<;>rfl
 have e4:IntKind.i64.wrap ((n0:Int)+(m1:Int))=((n0+m1:Nat):Int):=Zc _ (by omega) (by omega)
 refine AC.enter Tryz.func7 rfl (Nat.le_of_ble_eq_true rfl) ?_
 simp only[Tryz.f7]
 have nx:=aI @hk8 (aI @hm1 (aI @e1 (aI @e2 (aI @e3 (aI @e4 (aI @Int.toNat_natCast trivial))))))
 refine' st7a4cb3
 obtain⟨K,hK⟩: ∃K:Int,(k:Int)=K:=⟨_,rfl⟩
 rw[hK]
 refine AW.loop [1,5,7,8,9] [5,6000,6001,6002,6003,6004,6005,6006,6008,6009,6010] (fun m st=> ∃i nt ni nf ne nc:Nat,st=LM mo K (n0+m1) i nt ni nf ne nc/\RL K i nt ni nf ne nc/\i<=n0+m1/\m=n0+m1-i) ?_ ?_
 ·exact⟨_,0,1,0,0,0,0,rfl,⟨fun _=> .inr ⟨rfl,rfl⟩,fun _=>rfl,fun _=>rfl,fun _=>rfl,fun _=>⟨rfl,rfl⟩,fun _=>⟨rfl,rfl⟩,fun _=>rfl,fun _=>rfl⟩,Nat.zero_le _,rfl⟩
 rintro m st ⟨i,nt,ni,nf,ne,nc,rfl,hR,hi,rfl⟩
 have hKc:K=0\/K=1\/K=2\/K=3\/K=4\/K=5\/K=6\/K=7:=by omega
 obtain⟨r1,r2,r3,r4,r5,r6,r7,r8⟩:=hR
 by_cases hin:i<n0+m1
 ·have e7:IntKind.i64.wrap ((i:Int)+1)=((i+1:Nat):Int):=Zc _ (by omega) (by omega)
  have dlt:decide ((i:Int)<((n0+m1:Nat):Int))=true:=decide_eq_true (by omega)
  have dgt:True:=trivial
  have hs:True:=trivial
  have hs2:True:=trivial
  have hln:True:=trivial
  have hln2:True:=trivial
  have hcut:True:=trivial
  have hcut2:True:=trivial
  clear hm1 hk8 e1 e2 e3 e4
  rcases hKc with rfl|rfl|rfl|rfl|hK4
  case' inl=>
   rcases r1 rfl with⟨h1,rfl⟩|⟨rfl,rfl⟩
   case' inl=>
    have dgt:decide ((nt:Int)>0)=true:=decide_eq_true (by omega)
    have hs:rp [.nils,.nils] nt++[.nils,.nils]=rp [.nils,.nils] (nt+1):=ZjR [.nils,.nils] nt
    have hcut:List.take (nt*2) (rp [.nils,.nils] nt)=rp [.nils,.nils] nt:=Zia [.nils,.nils] nt
    have hln:(rp [.nils,.nils] nt).length=nt*2:=Zhj [.nils,.nils] nt
   case' inr=>
    have dgt:decide (((0:Nat):Int)>0)=false:=rfl
  case' inr.inl=>
   obtain rfl:=r3 rfl
   have hs:rp [.str [],.str [],.int .i64 0] ni++[.str [],.str [],.int .i64 0]=rp [.str [],.str [],.int .i64 0] (ni+1):=ZjR [.str [],.str [],.int .i64 0] ni
   have hcut:List.take (ni*3) (rp [.str [],.str [],.int .i64 0] ni)=rp [.str [],.str [],.int .i64 0] ni:=Zia [.str [],.str [],.int .i64 0] ni
   have hln:(rp [.str [],.str [],.int .i64 0] ni).length=ni*3:=Zhj [.str [],.str [],.int .i64 0] ni
  case' inr.inr.inl=>
   obtain⟨h5,rfl⟩:=r5 rfl
   subst h5
   have hs:rp [.int .i64 0] nf++Zi .i64 [0]=rp [.int .i64 0] (nf+1):=ZjR [.int .i64 0] nf
   have hs2:rp CC nf++CC=rp CC (nf+1):=ZjR CC nf
   have hcut:List.take nf (rp [.int .i64 0] nf)=rp [.int .i64 0] nf:=List.take_of_length_le (by rw[Zhj];simp)
   have hcut2:List.take (nf*2) (rp CC nf)=rp CC nf:=Zia CC nf
   have hln:(rp [.int .i64 0] nf).length=nf:=by rw[Zhj];simp
   have hln2:(rp CC nf).length=nf*2:=Zhj CC nf
   unfold CC at hs2 hcut2 hln2
  case' inr.inr.inr.inl=>
   obtain rfl:=r7 rfl
   have hs:rp [.str [],.int .i64 0,.int .i64 0] ne++[.str [],.int .i64 0,.int .i64 0]=rp [.str [],.int .i64 0,.int .i64 0] (ne+1):=ZjR [.str [],.int .i64 0,.int .i64 0] ne
   have hcut:List.take (ne*3) (rp [.str [],.int .i64 0,.int .i64 0] ne)=rp [.str [],.int .i64 0,.int .i64 0] ne:=Zia [.str [],.int .i64 0,.int .i64 0] ne
   have hln:(rp [.str [],.int .i64 0,.int .i64 0] ne).length=ne*3:=Zhj [.str [],.int .i64 0,.int .i64 0] ne
  case' inr.inr.inr.inr=>
   have dgt:(K==0)=false:=by rw[beq_eq_false_iff_ne];omega
   have hs:(K==1)=false:=by rw[beq_eq_false_iff_ne];omega
   have hs2:(K==2)=false:=by rw[beq_eq_false_iff_ne];omega
   have hln:(K==3)=false:=by rw[beq_eq_false_iff_ne];omega
  all_goals as_aux_lemma=>
   have nx:=aI @e7 (aI @dlt (aI @dgt (aI @hs (aI @hs2 (aI @hcut (aI @hcut2 (aI @hln (aI @hln2 trivial))))))))
   refine' st7a4cb3
   all_goals first
    |exact⟨_,by omega,nt+1,nt+1,ni,nf,ne,nc,rfl,⟨by omega,by omega,by omega,by omega,by omega,by omega,by omega,by omega⟩,by omega,rfl⟩
    |exact⟨_,by omega,1,1,ni,nf,ne,nc,rfl,⟨by omega,by omega,by omega,by omega,by omega,by omega,by omega,by omega⟩,by omega,rfl⟩
    |exact⟨_,by omega,ni+1,nt,ni+1,nf,ne,nc,rfl,⟨by omega,by omega,by omega,by omega,by omega,by omega,by omega,by omega⟩,by omega,rfl⟩
    |exact⟨_,by omega,nf+1,nt,ni,nf+1,ne,nf+1,rfl,⟨by omega,by omega,by omega,by omega,by omega,by omega,by omega,by omega⟩,by omega,rfl⟩
    |exact⟨_,by omega,ne+1,nt,ni,nf,ne+1,nc,rfl,⟨by omega,by omega,by omega,by omega,by omega,by omega,by omega,by omega⟩,by omega,rfl⟩
    |exact⟨_,by omega,i+1,nt,ni,nf,ne,nc,rfl,⟨by omega,by omega,by omega,by omega,by omega,by omega,by omega,by omega⟩,by omega,rfl⟩
 ·have dlt:decide ((i:Int)<((n0+m1:Nat):Int))=false:=decide_eq_false (by omega)
  have hie:i=n0+m1:=by omega
  clear hin
  have hcut:List.take (nt*2) (rp [.nils,.nils] nt)=rp [.nils,.nils] nt:=Zia [.nils,.nils] nt
  have hcut1:List.take (ni*3) (rp [.str [],.str [],.int .i64 0] ni)=rp [.str [],.str [],.int .i64 0] ni:=Zia [.str [],.str [],.int .i64 0] ni
  have hcut2:List.take nf (rp [.int .i64 0] nf)=rp [.int .i64 0] nf:=List.take_of_length_le (by rw[Zhj];simp)
  have hcut6:List.take (ne*3) (rp [.str [],.int .i64 0,.int .i64 0] ne)=rp [.str [],.int .i64 0,.int .i64 0] ne:=Zia [.str [],.int .i64 0,.int .i64 0] ne
  have hcut9:List.take (nc*2) (rp CC nc)=rp CC nc:=Zia CC nc
  by_cases hK3:K<=3
  ·as_aux_lemma=>
   have d4:(K==4)=false:=by rw[beq_eq_false_iff_ne];omega
   have d5:(K==5)=false:=by rw[beq_eq_false_iff_ne];omega
   have d6:decide (K>=6)=false:=decide_eq_false (by omega)
   obtain⟨hm3,hl3⟩:=ZEa nt ni nf ne nc (da:=[]) (.inl rfl) (by omega)
   obtain⟨hm4,hl4⟩:=ZEa nt ni nf ne nc (da:=ZkE) (.inr rfl) (by omega)
   have hev:Ev (lmG (List.replicate nt ⟨[],[]⟩) (List.replicate ni ⟨[],[],0⟩) (List.replicate nf 0) (List.replicate ne ⟨[],0,0⟩) [] (List.replicate nc ⟨[],eI⟩) []) (lmG (List.replicate nt ⟨[],[]⟩) (List.replicate ni ⟨[],[],0⟩) (List.replicate nf 0) (List.replicate ne ⟨[],0,0⟩) [] (List.replicate nc ⟨[],eI⟩) ZkE) m1:=by
    have hK:K=0\/K=1\/K=2\/K=3:=by omega
    have h01:m1=0\/m1=1:=by omega
    rcases hK with rfl|rfl|rfl|rfl
    ·have hk0:k=0:=by omega
     subst hk0
     have hn0:(256:Int)=n0:=hn0
     have q1:nt=256+m1:=by omega
     have q2:ni=0:=r4 (by omega)
     have q3:=r6 (by omega)
     have q4:ne=0:=r8 (by omega)
     rw[q1,q2,q3.1,q3.2,q4]
     exact ev0 m1 h01
    ·have hk0:k=1:=by omega
     subst hk0
     have hn0:(512:Int)=n0:=hn0
     have q1:nt=1:=r2 (by omega)
     have q2:ni=512+m1:=by have:=r3 rfl;omega
     have q3:=r6 (by omega)
     have q4:ne=0:=r8 (by omega)
     rw[q1,q2,q3.1,q3.2,q4]
     exact ev1 m1 h01
    ·have hk0:k=2:=by omega
     subst hk0
     have hn0:(512:Int)=n0:=hn0
     have q1:nt=1:=r2 (by omega)
     have q2:ni=0:=r4 (by omega)
     have q3:=r5 rfl
     have q4:ne=0:=r8 (by omega)
     have q5:nf=512+m1:=by omega
     have q6:nc=512+m1:=by omega
     rw[q1,q2,q5,q6,q4]
     exact ev2 m1 h01
    ·have hk0:k=3:=by omega
     subst hk0
     have hn0:(512:Int)=n0:=hn0
     have q1:nt=1:=r2 (by omega)
     have q2:ni=0:=r4 (by omega)
     have q3:=r6 (by omega)
     have q4:ne=512+m1:=by have:=r7 rfl;omega
     rw[q1,q2,q3.1,q3.2,q4]
     exact ev3 m1 h01
   have hw3:=ZB5 nt ni nf ne nc ZD8
   have hw4:=ZB5 nt ni nf ne nc ZD9
   unfold CC at hcut9 hw3 hw4
   clear hK hn0 r1 r2 r3 r4 r5 r6 r7 r8 e1 e2 e3 e4 hk8
   have nx:=aI @dlt (aI @d4 (aI @d5 (aI @d6 trivial)))
   refine' stdfc4f8
   refine AW.keep [1,5] [5,6000,6001,6002,6003,6004,6005,6006,6008,6009,6010] ?_
   refine AW.frz 6000 ?_;refine AW.frz 6001 ?_;refine AW.frz 6002 ?_;refine AW.frz 6003 ?_;refine AW.frz 6004 ?_;refine AW.frz 6005 ?_;refine AW.frz 6006 ?_;refine AW.frz 6008 ?_;refine AW.frz 6009 ?_;refine AW.frz 6010 ?_
   try simp(disch:=omega) only[NM,Nat.reduceBEq,reduceAdd,reduceMul,Int.reduceToNat,reduceSub,List.set_cons_zero,List.set_cons_succ,hcut,hcut1,hcut2,hcut6,hcut9]
   have hend:=lend_ok mo m1 (by omega) hm1 _ _ _ _ _ _ _ _ _ _ _ _ _ _ hm3 hl3 hm4 hl4 hev hw3 hw4
   simp only[Tryz.f7,Option.getD_some,tail39,starts39,seqL,seqR,Nat.reduceBEq,cond_true,cond_false]at hend
   exact hend _ (by assumption) (by assumption)
  by_cases hK4:K=4
  ·as_aux_lemma=>
   have d4:(K==4)=true:=by rw[beq_iff_eq];exact hK4
   have d5:(K==5)=false:=by rw[beq_eq_false_iff_ne];omega
   have d6:decide (K>=6)=false:=decide_eq_false (by omega)
   have q1:nt=1:=r2 (by omega)
   have q2:ni=0:=r4 (by omega)
   have q3:=r6 (by omega)
   have q4:ne=0:=r8 (by omega)
   have hG: ∀da,lmG [⟨[],[]⟩] [] [] [] [⟨eI,List.replicate (n0+m1) 0⟩] [] da=lmG (List.replicate nt ⟨[],[]⟩) (List.replicate ni ⟨[],[],0⟩) (List.replicate nf 0) (List.replicate ne ⟨[],0,0⟩) [⟨eI,List.replicate (n0+m1) 0⟩] (List.replicate nc ⟨[],eI⟩) da:=fun da=>by
    rw[q1,q2,q3.1,q3.2,q4];rfl
   obtain⟨hm3,hl3⟩:=lm4 (n0+m1) (by omega) (da:=[]) (.inl rfl)
   obtain⟨hm4,hl4⟩:=lm4 (n0+m1) (by omega) (da:=ZkE) (.inr rfl)
   rw[hG]at hm3 hl3 hm4 hl4
   have hev:Ev (lmG (List.replicate nt ⟨[],[]⟩) (List.replicate ni ⟨[],[],0⟩) (List.replicate nf 0) (List.replicate ne ⟨[],0,0⟩) [⟨eI,List.replicate (n0+m1) 0⟩] (List.replicate nc ⟨[],eI⟩) []) (lmG (List.replicate nt ⟨[],[]⟩) (List.replicate ni ⟨[],[],0⟩) (List.replicate nf 0) (List.replicate ne ⟨[],0,0⟩) [⟨eI,List.replicate (n0+m1) 0⟩] (List.replicate nc ⟨[],eI⟩) ZkE) m1:=by
    have h01:m1=0\/m1=1:=by omega
    have hk0:k=4:=by omega
    subst hk0
    have hn0:(1024:Int)=n0:=hn0
    have q0:n0=1024:=by omega
    subst q0
    have q1:nt=1:=r2 (by omega)
    have q2:ni=0:=r4 (by omega)
    have q3:=r6 (by omega)
    have q4:ne=0:=r8 (by omega)
    rw[q1,q2,q3.1,q3.2,q4]
    exact ev4 m1 h01
   have hw3:=ZAs nt ni nf ne nc (n0+m1) ZD8
   have hw4:=ZAs nt ni nf ne nc (n0+m1) ZD9
   have hz4:=Zpe .i64 (n0+m1)
   unfold CC at hcut9 hw3 hw4
   clear hG q1 q2 q3 q4 hK hn0 r1 r2 r3 r4 r5 r6 r7 r8 e1 e2 e3 e4 hk8
   have nx:=aI @dlt (aI @d4 (aI @d5 (aI @d6 (aI @hz4 trivial))))
   refine' stdfc4f8
   refine AW.keep [1,5] [5,6000,6001,6002,6003,6004,6005,6006,87,6009,6010] ?_
   refine AW.frz 6000 ?_;refine AW.frz 6001 ?_;refine AW.frz 6002 ?_;refine AW.frz 6003 ?_;refine AW.frz 6004 ?_;refine AW.frz 6005 ?_;refine AW.frz 6006 ?_;refine AW.frz 87 ?_;refine AW.frz 6009 ?_;refine AW.frz 6010 ?_
   try simp(disch:=omega) only[NM,Nat.reduceBEq,reduceAdd,reduceMul,Int.reduceToNat,reduceSub,List.set_cons_zero,List.set_cons_succ,hcut,hcut1,hcut2,hcut6,hcut9]
   have hend:=lend_ok mo m1 (by omega) hm1 _ _ _ _ _ _ _ _ _ _ _ _ _ _ hm3 hl3 hm4 hl4 hev hw3 hw4
   simp only[Tryz.f7,Option.getD_some,tail39,starts39,seqL,seqR,Nat.reduceBEq,cond_true,cond_false]at hend
   exact hend _ (by assumption) (by assumption)
  by_cases hK5:K=5
  ·as_aux_lemma=>
   subst hK5
   obtain rfl:nt=1:=r2 (by omega)
   obtain rfl:ni=0:=r4 (by omega)
   obtain⟨rfl,rfl⟩:=r6 (by omega)
   obtain rfl:ne=0:=r8 (by omega)
   clear hcut hcut1 hcut2 hcut6 hcut9
   have p0: ∀X,rp X 0=[]:=fun _=>rfl
   have p1:rp [.nils,.nils] 1=[.nils,.nils]:=rfl
   have d4:((5:Int)==4)=false:=rfl
   have d5:((5:Int)==5)=true:=rfl
   have nx:=aI @dlt (aI @d4 (aI @d5 (aI @p0 (aI @p1 trivial))))
   refine' st41b820
   refine AW.unf 96 rfl (by simp) ?_
   refine AW.frz 6000 ?_;refine AW.frz 6001 ?_;refine AW.frz 6002 ?_;refine AW.frz 6003 ?_;refine AW.frz 6004 ?_;refine AW.frz 6005 ?_;refine AW.frz 6006 ?_;refine AW.frz 6008 ?_;refine AW.frz 6010 ?_
   refine AW.keep [1,5,7,8] [5,96] ?_
   try simp(disch:=omega) only[NM,Nat.reduceBEq,reduceAdd,reduceMul,Int.reduceToNat,reduceSub,List.set_cons_zero,List.set_cons_succ]
   have nx:=trivial
   refine' st7a4cb3
   refine AW.loop [1,5,7,8,10] [5,96,97000] (fun m st=> ∃(j:Nat) (L:V) (X:Mem),st=L5 mo (n0+m1) j L X/\((j=0/\L= .nils/\X=[])\/(1<=j/\L= .ref 97000 0 j 1/\X=[(97000,⟨true,Zi .i64 (List.replicate j 127)⟩)]))/\j<=n0+m1/\m=n0+m1-j) ?_ ?_
   ·exact⟨_,0,.nils,[],rfl,.inl ⟨rfl,rfl,rfl⟩,Nat.zero_le _,rfl⟩
   rintro m st ⟨j,L,X,rfl,hL,hj,rfl⟩
   by_cases hjn:j<n0+m1
   ·have e7:IntKind.i64.wrap ((j:Int)+1)=((j+1:Nat):Int):=Zc _ (by omega) (by omega)
    have dlt:decide ((j:Int)<((n0+m1:Nat):Int))=true:=decide_eq_true (by omega)
    have hcut:List.take j (Zi .i64 (List.replicate j 127))=Zi .i64 (List.replicate j 127):=List.take_of_length_le (by rw[Zb,List.length_replicate];exact Nat.le_refl _)
    have hln:(Zi .i64 (List.replicate j 127)).length=j:=by rw[Zb,List.length_replicate]
    have hs:Zi .i64 (List.replicate j 127)++Zi .i64 [127]=Zi .i64 (List.replicate (j+1) 127):=by
     unfold Zi;rw[List.replicate_succ',List.map_append]
    rcases hL with⟨rfl,rfl,rfl⟩|⟨hj1,rfl,rfl⟩
    all_goals as_aux_lemma=>
     have nx:=aI @dlt trivial
     refine' stbd0616
     try simp(disch:=omega) only[NM,Nat.reduceBEq,reduceAdd,reduceMul,Int.reduceToNat,reduceSub,List.set_cons_zero,List.set_cons_succ]
     refine AW.drawSM [(5,⟨false,[.view 1 2 [.nils,.nils],.view 0 3 [],.view 1 1 (Zi .i64 [0]),.view 0 2 [],.view 0 2 [],.view 0 3 [],.view 0 3 [],.int .i64 (-1),.view 0 2 [],.ref 96 0 1 2,.view 0 2 []]⟩)] [5,96] (L0:= #[false,false,false,false,false,false,false,false,false,false,false,false]) rfl Zjo rfl (by assumption) ⟨rfl,List.cons_ne_nil _ _,trivial⟩ ⟨⟨_,rfl,List.cons_ne_nil _ _⟩,⟨_,rfl,List.cons_ne_nil _ _⟩,trivial⟩ rfl ?_
     intro pn Qs hQs hPs
     have nx:=aI @hcut (aI @hln (aI @hs (aI @e7 trivial)))
     refine' st7a4cb3
     all_goals first
      |exact⟨_,by omega,1,_,[(97000,⟨true,Zi .i64 [127]⟩)],rfl,.inr ⟨by omega,rfl,rfl⟩,by omega,rfl⟩
      |exact⟨_,by omega,j+1,_,[(97000,⟨true,Zi .i64 (List.replicate (j+1) 127)⟩)],rfl,.inr ⟨by omega,rfl,rfl⟩,by omega,rfl⟩
   ·have hk0:k=5:=by omega
    subst hk0
    have hn0:(512:Int)=n0:=hn0
    have h01:m1=0\/m1=1:=by omega
    obtain rfl:j=n0+m1:=by omega
    obtain⟨-,rfl,rfl⟩:=hL.resolve_left (by rintro⟨h, -, -⟩;omega)
    have dlt:decide (((n0+m1:Nat):Int)<((n0+m1:Nat):Int))=false:=decide_eq_false (by omega)
    have d6:decide ((5:Int)>=6)=false:=rfl
    have hcut:List.take (n0+m1) (List.replicate (n0+m1) (127:Int))=List.replicate (n0+m1) 127:=List.take_of_length_le (by rw[List.length_replicate];exact Nat.le_refl _)
    obtain⟨hm3,hl3⟩:=lm5 (n0+m1) (by omega) (da:=[]) (.inl rfl)
    obtain⟨hm4,hl4⟩:=lm5 (n0+m1) (by omega) (da:=ZkE) (.inr rfl)
    have hev:Ev (lmG [⟨[],[]⟩] [] [0] [] [] [⟨List.replicate (n0+m1) 127,eI⟩] []) (lmG [⟨[],[]⟩] [] [0] [] [] [⟨List.replicate (n0+m1) 127,eI⟩] ZkE) m1:=by
     obtain rfl:n0=512:=by omega
     exact ev5 m1 h01
    have hwk: ∀{D:V} {da:List ZbS},Wk D (.view da.length 2 (da.flatMap Zcp))->WkL [.view 1 2 [.nils,.nils],.view 0 3 [],.view 1 1 (Zi .i64 [0]),.view 0 2 [],.view 0 2 [],.view 0 3 [],.view 0 3 [],.int .i64 (-1),.view 0 2 [],.view 1 2 [.view (n0+m1) 1 (Zi .i64 (List.replicate (n0+m1) 127)),.view 1 6 [.int .i64 11,.int .i64 0,.int .i64 0,.int .u64 0,.int .u64 0,.nils]],D] (Zb9 (lmG [⟨[],[]⟩] [] [0] [] [] [⟨List.replicate (n0+m1) 127,eI⟩] da)):=
     fun hD=>wk_gen (wT 1) (Wk.refl _) (Wk.refl _) (Wk.refl _) (Wk.refl _) (wCod _ (Fk.refl _)) hD
    have hw3:=hwk ZD8
    have hw4:=hwk ZD9
    clear hwk hK hn0 r1 r2 r3 r4 r5 r6 r7 r8 e1 e2 e3 e4 hk8 hL hjn hie hj
    have nx:=aI @dlt (aI @d6 trivial)
    refine' stdfc4f8
    refine AW.frz 97000 ?_
    refine AW.keep [1,5] [5,96] ?_
    try simp(disch:=omega) only[NM,Nat.reduceBEq,reduceAdd,reduceMul,Int.reduceToNat,reduceSub,List.set_cons_zero,List.set_cons_succ,hcut]
    refine AW.fla 96 rfl rfl ?_
    refine AW.frz 96 ?_
    try simp(disch:=omega) only[NM,Nat.reduceBEq,reduceAdd,reduceMul,Int.reduceToNat,reduceSub,List.set_cons_zero,List.set_cons_succ]
    have hend:=lend_ok mo m1 (by omega) hm1 _ _ _ _ _ _ _ _ _ _ _ _ _ _ hm3 hl3 hm4 hl4 hev hw3 hw4
    simp only[Tryz.f7,Option.getD_some,tail39,starts39,seqL,seqR,Nat.reduceBEq,cond_true,cond_false]at hend
    exact hend _ (by assumption) (by assumption)
  ·as_aux_lemma=>
   have hKc:K=6\/K=7:=by omega
   obtain rfl:nt=1:=r2 (by omega)
   obtain rfl:ni=0:=r4 (by omega)
   obtain⟨rfl,rfl⟩:=r6 (by omega)
   obtain rfl:ne=0:=r8 (by omega)
   clear hcut hcut1 hcut2 hcut6 hcut9
   have p0: ∀X,rp X 0=[]:=fun _=>rfl
   have p1:rp [.nils,.nils] 1=[.nils,.nils]:=rfl
   have d4:(K==4)=false:=by rw[beq_eq_false_iff_ne];omega
   have d5:(K==5)=false:=by rw[beq_eq_false_iff_ne];omega
   have d6:decide (K>=6)=true:=decide_eq_true (by omega)
   have hz6:=ZD7 .i64 (n0+m1)
   have nx:=aI @dlt (aI @d4 (aI @d5 (aI @d6 (aI @p0 (aI @p1 (aI @hz6 (aI @Int.toNat_natCast trivial)))))))
   refine' st7a4cb3
   refine AW.loop [1,5,7,8,11,12] [5,11,6000,6001,6002,6003,6004,6005,6006,6008,6009,6010] (fun m st=> ∃(j:Nat) (l:List Int),st=L6 mo K (n0+m1) j l/\l=List.replicate j 123++List.replicate (n0+m1-j) 0/\j<=n0+m1/\m=n0+m1-j) ?_ ?_
   ·exact⟨_,0,_,rfl,by simp,Nat.zero_le _,rfl⟩
   rintro m st ⟨j,l,rfl,hl,hj,rfl⟩
   have hll:l.length=n0+m1:=by rw[hl,List.length_append,List.length_replicate,List.length_replicate];omega
   by_cases hjn:j<n0+m1
   ·have e7:IntKind.i64.wrap ((j:Int)+1)=((j+1:Nat):Int):=Zc _ (by omega) (by omega)
    have dlt:decide ((j:Int)<((n0+m1:Nat):Int))=true:=decide_eq_true (by omega)
    have hs:ZnO l j 123=List.replicate (j+1) 123++List.replicate (n0+m1-(j+1)) 0:=by
     obtain⟨r,hr⟩: ∃r,n0+m1-j=r+1:=⟨n0+m1-j-1,by omega⟩
     rw[hl,hr,show n0+m1-(j+1)=r by omega,ZnO,List.take_left' (by simp),List.drop_append,List.length_replicate,Nat.add_sub_cancel_left,List.replicate_succ (n:=r),List.drop_succ_cons,List.drop_zero,List.drop_of_length_le (by simp),List.nil_append,List.replicate_succ' (n:=j)]
    have nx:=aI @e7 (aI @dlt trivial)
    refine' stb94d46
    all_goals first
     |exact⟨_,by omega,j+1,ZnO l j 123,rfl,hs,by omega,rfl⟩
   ·obtain rfl:j=n0+m1:=by omega
    rw[Nat.sub_self,List.replicate_zero,List.append_nil]at hl
    subst hl
    have dlt:decide (((n0+m1:Nat):Int)<((n0+m1:Nat):Int))=false:=decide_eq_false (by omega)
    have hcut:List.take (n0+m1) (List.replicate (n0+m1) (123:Int))=List.replicate (n0+m1) 123:=List.take_of_length_le (by rw[List.length_replicate];exact Nat.le_refl _)
    rcases hKc with rfl|rfl
    ·have hk0:k=6:=by omega
     subst hk0
     have hn0:(32:Int)=n0:=hn0
     have h01:m1=0\/m1=1:=by omega
     have d7:((6:Int)==7)=false:=rfl
     obtain⟨hm3,hl3⟩:=lm6 (n0+m1) 0 (n0+m1) (by omega) (by omega) (by omega) (da:=[]) (.inl rfl)
     obtain⟨hm4,hl4⟩:=lm6 (n0+m1) 0 (n0+m1) (by omega) (by omega) (by omega) (da:=ZkE) (.inr rfl)
     have hev:Ev (lmG [⟨List.replicate (n0+m1) 123,List.replicate 0 123⟩] [] [] [] [] [] []) (lmG [⟨List.replicate (n0+m1) 123,List.replicate 0 123⟩] [] [] [] [] [] ZkE) m1:=by
      obtain rfl:n0=32:=by omega
      exact ev6 m1 h01
     have hwk: ∀{D:V} {da:List ZbS},Wk D (.view da.length 2 (da.flatMap Zcp))->WkL [.view 1 2 [.view (n0+m1) 1 (Zi .i64 (List.replicate (n0+m1) 123)),.nils],.view 0 3 [],.view 0 1 [],.view 0 2 [],.view 0 2 [],.view 0 3 [],.view 0 3 [],.int .i64 (-1),.view 0 2 [],.view 0 2 [],D] (Zb9 (lmG [⟨List.replicate (n0+m1) 123,List.replicate 0 123⟩] [] [] [] [] [] da)):=
      fun hD=>wk_gen (wSig _ _ (Fk.refl _) (Fk.nils 1)) (Wk.refl _) (Wk.refl _) (Wk.refl _) (Wk.refl _) (Wk.refl _) hD
     have hw3:=hwk ZD8
     have hw4:=hwk ZD9
     clear hwk hK hn0 r1 r2 r3 r4 r5 r6 r7 r8 e1 e2 e3 e4 hk8 hll hjn hie hj
     have nx:=aI @dlt trivial
     refine' st51d952
     refine AW.frz 11 ?_
     try simp(disch:=omega) only[NM,Nat.reduceBEq,reduceAdd,reduceMul,Int.reduceToNat,reduceSub,List.set_cons_zero,List.set_cons_succ,hcut]
     have nx:=aI @d7 trivial
     refine' stdfc4f8
     refine AW.keep [1,5] [5,6000,6001,6002,6003,6004,6005,6006,6008,6009,6010] ?_
     refine AW.frz 6000 ?_;refine AW.frz 6001 ?_;refine AW.frz 6002 ?_;refine AW.frz 6003 ?_;refine AW.frz 6004 ?_;refine AW.frz 6005 ?_;refine AW.frz 6006 ?_;refine AW.frz 6008 ?_;refine AW.frz 6009 ?_;refine AW.frz 6010 ?_
     try simp(disch:=omega) only[NM,Nat.reduceBEq,reduceAdd,reduceMul,Int.reduceToNat,reduceSub,List.set_cons_zero,List.set_cons_succ]
     have hend:=lend_ok mo m1 (by omega) hm1 _ _ _ _ _ _ _ _ _ _ _ _ _ _ hm3 hl3 hm4 hl4 hev hw3 hw4
     simp only[Tryz.f7,Option.getD_some,tail39,starts39,seqL,seqR,Nat.reduceBEq,cond_true,cond_false]at hend
     exact hend _ (by assumption) (by assumption)
    ·have hk0:k=7:=by omega
     subst hk0
     have hn0:(32:Int)=n0:=hn0
     have h01:m1=0\/m1=1:=by omega
     have d7:((7:Int)==7)=true:=rfl
     obtain⟨hm3,hl3⟩:=lm6 0 (n0+m1) (n0+m1) (by omega) (by omega) (by omega) (da:=[]) (.inl rfl)
     obtain⟨hm4,hl4⟩:=lm6 0 (n0+m1) (n0+m1) (by omega) (by omega) (by omega) (da:=ZkE) (.inr rfl)
     have hev:Ev (lmG [⟨List.replicate 0 123,List.replicate (n0+m1) 123⟩] [] [] [] [] [] []) (lmG [⟨List.replicate 0 123,List.replicate (n0+m1) 123⟩] [] [] [] [] [] ZkE) m1:=by
      obtain rfl:n0=32:=by omega
      exact ev7 m1 h01
     have hwk: ∀{D:V} {da:List ZbS},Wk D (.view da.length 2 (da.flatMap Zcp))->WkL [.view 1 2 [.nils,.view (n0+m1) 1 (Zi .i64 (List.replicate (n0+m1) 123))],.view 0 3 [],.view 0 1 [],.view 0 2 [],.view 0 2 [],.view 0 3 [],.view 0 3 [],.int .i64 (-1),.view 0 2 [],.view 0 2 [],D] (Zb9 (lmG [⟨List.replicate 0 123,List.replicate (n0+m1) 123⟩] [] [] [] [] [] da)):=
      fun hD=>wk_gen (wSig _ _ (Fk.nils 1) (Fk.refl _)) (Wk.refl _) (Wk.refl _) (Wk.refl _) (Wk.refl _) (Wk.refl _) hD
     have hw3:=hwk ZD8
     have hw4:=hwk ZD9
     clear hwk hK hn0 r1 r2 r3 r4 r5 r6 r7 r8 e1 e2 e3 e4 hk8 hll hjn hie hj
     have nx:=aI @dlt trivial
     refine' st51d952
     refine AW.frz 11 ?_
     try simp(disch:=omega) only[NM,Nat.reduceBEq,reduceAdd,reduceMul,Int.reduceToNat,reduceSub,List.set_cons_zero,List.set_cons_succ,hcut]
     have nx:=aI @d7 trivial
     refine' stdfc4f8
     refine AW.keep [1,5] [5,6000,6001,6002,6003,6004,6005,6006,6008,6009,6010] ?_
     refine AW.frz 6000 ?_;refine AW.frz 6001 ?_;refine AW.frz 6002 ?_;refine AW.frz 6003 ?_;refine AW.frz 6004 ?_;refine AW.frz 6005 ?_;refine AW.frz 6006 ?_;refine AW.frz 6008 ?_;refine AW.frz 6009 ?_;refine AW.frz 6010 ?_
     try simp(disch:=omega) only[NM,Nat.reduceBEq,reduceAdd,reduceMul,Int.reduceToNat,reduceSub,List.set_cons_zero,List.set_cons_succ]
     have hend:=lend_ok mo m1 (by omega) hm1 _ _ _ _ _ _ _ _ _ _ _ _ _ _ hm3 hl3 hm4 hl4 hev hw3 hw4
     simp only[Tryz.f7,Option.getD_some,tail39,starts39,seqL,seqR,Nat.reduceBEq,cond_true,cond_false]at hend
     exact hend _ (by assumption) (by assumption)
end Go.Proofs.YtimhmpdfioihlaaGreatDoor
