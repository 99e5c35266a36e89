/- The tables. -/
import Derived.Test.YtimhmpdfioihlaaGreatDoorDP
import Derived.Test.YtimhmpdfioihlaaGreatDoorGPreV
import Derived.Test.YtimhmpdfioihlaaGreatDoorGV6
import Derived.Test.YtimhmpdfioihlaaGreatDoorGCB
set_option linter.unusedSimpArgs false
set_option linter.unusedVariables false
set_option maxHeartbeats 12800000
namespace Go.Proofs.YtimhmpdfioihlaaGreatDoor
open Go Go.Abs
attribute [local irreducible] AW AWL AC FW CW CWr IntKind.wrap
theorem ZzZ.sd {p:Prop}(h:p:=by first|exact Zw8):p:=h
open ZzZ in
set_option maxRecDepth 8000 in
theorem ZoG:AC Tryz.prog 138 [] (fun r m=>r= .ref 0 0 42 5/\m=[(0,Zqo ZdC)]):=by
 refine AC.enter Tryz.func138 rfl (Yaa rfl) ?_
 simp only[Tryz.f138]
 have nx:=trivial
 refine' Zqm
 all_goals first|exact⟨trivial,trivial⟩|exact⟨rfl,trivial⟩|exact⟨rfl,rfl⟩|exact⟨trivial,rfl⟩|(exfalso;omega)|trace_state
theorem ZhL:AC Tryz.prog 138 [] (fun r m=>r= .view 42 5 (Zqo ZdC)/\m=[]):=ZoG.look ((Zqp _).trans rfl)
open ZzZ in
set_option maxRecDepth 8000 in
theorem ZoH:AC Tryz.prog 139 [] (fun r m=>r= .ref 0 0 66 5/\m=[(0,Zqo ZeF)]):=by
 refine AC.enter Tryz.func139 rfl (Yaa rfl) ?_
 simp only[Tryz.f139]
 have nx:=trivial
 refine' Zqm
 all_goals first|exact⟨trivial,trivial⟩|exact⟨rfl,trivial⟩|exact⟨rfl,rfl⟩|exact⟨trivial,rfl⟩|(exfalso;omega)|trace_state
theorem ZhM:AC Tryz.prog 139 [] (fun r m=>r= .view 66 5 (Zqo ZeF)/\m=[]):=ZoH.look ((Zqp _).trans rfl)
end Go.Proofs.YtimhmpdfioihlaaGreatDoor
namespace Go.Proofs.YtimhmpdfioihlaaGreatDoor
set_option maxRecDepth 20000
open Go Go.Abs Nat
attribute [local irreducible] AW AWL AC FW CW CWr IntKind.wrap
section
def G17 (xs ys:List Int)(i:Int):St:=
 { n:=26,slots:=[(0,.view xs.length 1 (Zi .i64 xs)),(1,.view ys.length 1 (Zi .i64 ys)),(5,.int .i64 i)],mem:=[] }
theorem ZCS.NM:type_of% @MB.NM/\type_of% @G17.eq_1:=
 ⟨MB.NM,@G17.eq_1⟩
open ZCS
open ZhJ ZdR in
theorem Zyp (xs ys:List Int)(hlen:xs.length<=1000000000000000):AC Tryz.prog 55 [.view xs.length 1 (Zi .i64 xs),.view ys.length 1 (Zi .i64 ys)] (fun r m=>r= .bool (decide (xs=ys))/\m=[]):=by
 refine AC.enter Tryz.func55 rfl (Yaa rfl) ?_
 simp only[Tryz.f55]
 have nx:=trivial
 refine' Zqk
 ·refine⟨?_,trivial⟩
  rw[Yaf]
  intro e;subst e;exact hc rfl
 ·have hll:xs.length=ys.length:=by omega
  refine AW.loop [0,1,5] [] (fun n st=> ∃(k:Nat) (i:Int),st=G17 xs ys i/\k<=xs.length/\n=xs.length-k/\i=k/\xs.take k=ys.take k) ?_ ?_
  ·exact⟨_,0,_,rfl,Nat.zero_le _,rfl,rfl,rfl⟩
  ·rintro n st ⟨k,i,rfl,hk,rfl,rfl,he⟩
   have nx:=trivial
   refine' Zqk
   all_goals try simp(disch:=omega) only[NM,Nat.reduceBEq,reduceAdd,reduceMul,Int.reduceToNat,reduceSub,List.set_cons_zero,List.set_cons_succ]
   ·have hk2:k<xs.length:=by omega
    refine⟨?_,trivial⟩
    rw[Yaf]
    intro e;subst e;exact hc rfl
   ·have hk2:k<xs.length:=by omega
    refine⟨_,?_,k+1,_,rfl,hk2,rfl,Zc _ (by omega) (by omega),?_⟩
    ·omega
    ·rw[ZgK _ _ hk2,ZgK _ _ (by omega),he,hc]
   ·have hkk:k=xs.length:=by omega
    subst hkk
    refine⟨?_,trivial⟩
    rw[Yau,Yad (by omega)]at he
    rw[Yae he]
end
section
def S15 (xs:List Int)(n:Int)(n3:Nat)(c3:List V)(i:Int):St:=
 { n:=29,slots:=[(0,.view xs.length 1 (Zi .u64 xs)),(2,.ref 2 0 0 1),(3,.ref 3 0 n3 1),(5,.int .u64 n),(6,.view xs.length 1 (Zi .u64 xs)),(7,.int .i64 xs.length),(8,.int .i64 i)],mem:=[(3,⟨true,c3⟩)] }
def T15 (xs:List Int)(n3:Nat)(c3:List V)(i:Int):St:=
 { n:=29,slots:=[(0,.view xs.length 1 (Zi .u64 xs)),(2,.ref 2 0 0 1),(3,.ref 3 0 n3 1),(6,.view xs.length 1 (Zi .u64 xs)),(7,.int .i64 xs.length),(8,.int .i64 i)],mem:=[(3,⟨true,c3⟩)] }
theorem MPU.NM:type_of% @MB.NM/\type_of% @S15.eq_1/\type_of% @T15.eq_1:=
 ⟨MB.NM,@S15.eq_1,@T15.eq_1⟩
open MPU
theorem ZHx.sd {p:Prop}(h:p:=by first|exact Zw6):p:=h
open ZHx Zus in
theorem ZFb (xs:List Int)(hb: ∀x∈xs,0<=x/\x<2^64)(hlen:xs.length<=1000000000000):AC Tryz.prog 60 [.view xs.length 1 (Zi .u64 xs)] (fun r m=>r= .ref 2 0 (Zfk xs).length 1/\m=[(2,Zi .u8 (Zfk xs))]):=by
 refine AC.enter Tryz.func60 rfl (Yaa rfl) ?_
 simp only[Tryz.f60]
 have nx:=trivial
 refine' Zey
 refine AW.loop [0,2,3,6,7,8] [3] (fun n st=> ∃(k n3:Nat) (c3:List V) (i:Int),st=T15 xs n3 c3 i/\k<=xs.length/\n=xs.length-k/\i=k/\n3=(Zfk (xs.take k)).length/\c3=Zi .u8 (Zfk (xs.take k))) ?_ ?_
 ·exact⟨_,0,_,_,_,rfl,Nat.zero_le _,rfl,rfl,rfl,rfl⟩
 ·rintro n st ⟨k,n3,c3,i,rfl,hk,rfl,rfl,rfl,rfl⟩
  by_cases hkl:k<xs.length
  ·have hlk:=ZuL (xs.take k) (fun x hx=>hb x (List.mem_of_mem_take hx))
   rw[Yar]at hlk
   have hx:=hb _ (Zbw hkl)
   have hpl:=Ziw 9 (xs.getD k 0).toNat (by have:=hx.1;have:=hx.2;simp only[Nat.reduceAdd,Nat.reduceMul,Nat.reducePow];omega)
   have nx:=trivial
   refine' Zey
   refine AW.loop [0,2,3,5,6,7,8] [3] (fun n st=> ∃(m n3:Nat) (o:List Int),st=S15 xs m n3 (Zi .u8 o) k/\n=m/\m<2^64/\n3=o.length/\Zfk (xs.take k)++ZhK (xs.getD k 0).toNat=o++ZhK m) ?_ ?_
   ·exact⟨_,(xs.getD k 0).toNat,_,Zfk (xs.take k),by rw[Int.toNat_of_nonneg hx.1];rfl,rfl,by omega,rfl,rfl⟩
   ·rintro n st ⟨m,n3,o,rfl,rfl,hm,rfl,he⟩
    have hel:=congrArg List.length he
    rw[Yal,Yal]at hel
    have hsh:(n:Int).fdiv (2^min (Int.toNat 7) IntKind.u64.bits)=((n/128:Nat):Int):=ZGC (k:= .u64) (n:Int) (by decide)
    have hsh2:=hsh
    simp only[Int.reduceToNat]at hsh2
    have hlb:=ZuN (n:Int)
    have nx:=aI @hsh (aI @hsh2 (aI @hlb trivial))
    refine' Zey
    all_goals try simp(disch:=omega) only[NM,Nat.reduceBEq,reduceAdd,reduceMul,Int.reduceToNat,reduceSub,List.set_cons_zero,List.set_cons_succ,hsh,hsh2,hlb]
    ·have hn: ¬n<128:=by omega
     refine⟨n/128,by omega,n/128,_,o++[(n:Int)%128+128],?_,rfl,by omega,by rw[Yal],?_⟩
     ·rfl
     ·rw[he,Ziu hn,Ya6];rfl
    ·have hn:n<128:=by omega
     have e1:IntKind.u8.wrap (n:Int)=n:=Zb0 rfl (by omega) (by show _<(256:Int);omega)
     have e2:Zfk (xs.take (k+1))=o++[(n:Int)]:=by
      rw[ZgK _ _ hkl,Zm6]
      simp only[Zfk,List.append_nil]
      rw[he,Zd6 hn]
     refine⟨xs.length-(k+1),by omega,k+1,_,_,_,?_,by omega,rfl,rfl,rfl,rfl⟩
     rw[e2,Zc _ (by omega) (by omega),e1,Yal];rfl
  ·have nx:=trivial
   refine' Zey
   all_goals try simp(disch:=omega) only[NM,Nat.reduceBEq,reduceAdd,reduceMul,Int.reduceToNat,reduceSub,List.set_cons_zero,List.set_cons_succ]
   ·rw[Yad (by omega)];exact⟨rfl,rfl⟩
   all_goals(exfalso;omega)
end
end Go.Proofs.YtimhmpdfioihlaaGreatDoor
