/- leb.PutS. -/
import Derived.Test.YtimhmpdfioihlaaGreatDoorDP
import Derived.Test.YtimhmpdfioihlaaGreatDoorGPreV
import Derived.Test.YtimhmpdfioihlaaGreatDoorGV6
import Derived.Test.YtimhmpdfioihlaaGreatDoorGCB
import Derived.Test.YtimhmpdfioihlaaGreatDoorRows
import Derived.Lib.LaidU8
set_option linter.unusedSimpArgs false
set_option linter.unusedVariables false
set_option maxHeartbeats 12800000
namespace Go.Proofs.YtimhmpdfioihlaaGreatDoor
set_option maxRecDepth 20000
open Go Go.Abs Nat
attribute [local irreducible] AW AWL AC FW CW CWr IntKind.wrap
section
def S17 (xs:List Int)(n:Int)(n3:Nat)(c3:List V)(i:Int):St:=
 { n:=34,slots:=[(0,.view xs.length 1 (Zi .i64 xs)),(2,.ref 2 0 0 1),(3,.ref 3 0 n3 1),(5,.int .i64 n),(6,.view xs.length 1 (Zi .i64 xs)),(7,.int .i64 xs.length),(8,.int .i64 i)],mem:=[(3,⟨true,c3⟩)] }
def T17 (xs:List Int)(n3:Nat)(c3:List V)(i:Int):St:=
 { n:=34,slots:=[(0,.view xs.length 1 (Zi .i64 xs)),(2,.ref 2 0 0 1),(3,.ref 3 0 n3 1),(6,.view xs.length 1 (Zi .i64 xs)),(7,.int .i64 xs.length),(8,.int .i64 i)],mem:=[(3,⟨true,c3⟩)] }
theorem MPS.NM:type_of% @MB.NM/\type_of% @S17.eq_1/\type_of% @T17.eq_1:=
 ⟨MB.NM,@S17.eq_1,@T17.eq_1⟩
open MPS
theorem ZHy.sd {p:Prop}(h:p:=by first|exact Zxq):p:=h
open ZHy Zus in
theorem ZFc (xs:List Int)(hb: ∀x∈xs, -2^63<=x/\x<2^63)(hlen:xs.length<=1000000000000):AC Tryz.prog 130 [.view xs.length 1 (Zi .i64 xs)] (fun r m=>r= .ref 2 0 (Zfl xs).length 1/\m=[(2,Zi .u8 (Zfl xs))]):=by
 refine AC.enter Tryz.func130 rfl (Yaa rfl) ?_
 simp only[Tryz.f130]
 have nx:=trivial
 refine' ZcJ
 refine AW.loop [0,2,3,6,7,8] [3] (fun n st=> ∃(k n3:Nat) (c3:List V) (i:Int),st=T17 xs n3 c3 i/\k<=xs.length/\n=xs.length-k/\i=k/\n3=(Zfl (xs.take k)).length/\c3=Zi .u8 (Zfl (xs.take k))) ?_ ?_
 ·exact⟨_,0,_,_,_,rfl,Nat.zero_le _,rfl,rfl,rfl,rfl⟩
 ·rintro n st ⟨k,n3,c3,i,rfl,hk,rfl,rfl,rfl,rfl⟩
  by_cases hkl:k<xs.length
  ·have hlk:=ZuM (xs.take k) (fun x hx=>hb x (List.mem_of_mem_take hx))
   rw[Yar]at hlk
   have hx:=hb _ (Zbw hkl)
   have hpl:=Zc7 9 (xs.getD k 0) (by have:=hx.1;have:=hx.2;simp only[Nat.reduceMul,Int.reducePow,Int.reduceMul];omega)
   have nx:=trivial
   refine' ZcJ
   refine AW.loop [0,2,3,5,6,7,8] [3] (fun n st=> ∃(m:Int) (n3:Nat) (o:List Int),st=S17 xs m n3 (Zi .u8 o) k/\n=m.natAbs/\(-2^63<=m/\m<2^63)/\n3=o.length/\Zfl (xs.take k)++ZdD (xs.getD k 0)=o++ZdD m) ?_ ?_
   ·exact⟨_,xs.getD k 0,_,Zfl (xs.take k),rfl,rfl,hx,rfl,rfl⟩
   ·rintro _ st ⟨n,n3,o,rfl,rfl,hm,rfl,he⟩
    have hel:=congrArg List.length he
    rw[Yal,Yal]at hel
    have hsh:=ZGC (k:= .i64) n (by decide)
    have hsh2:=hsh
    simp only[Int.reduceToNat]at hsh2
    have hlb:=ZuN n
    have han:=Zym n
    have e1:IntKind.u8.wrap (n%128)=n%128:=Zb0 rfl (by omega) (by show _<(256:Int);omega)
    have nx:=aI @hsh (aI @hsh2 (aI @hlb (aI @han (aI @e1 trivial))))
    refine' ZcJ
    all_goals try simp(disch:=omega) only[NM,Nat.reduceBEq,reduceAdd,reduceMul,Int.reduceToNat,reduceSub,List.set_cons_zero,List.set_cons_succ,hsh,hsh2,hlb,han,e1]
    all_goals first
     |(have hn: ¬(-64<=n/\n<=63):=by omega
       refine⟨(n/128).natAbs,by omega,n/128,_,o++[n%128+128],?_,rfl,by omega,by rw[Yal],?_⟩
       ·rfl
       ·rw[he,Ziv hn,Ya6];rfl)
     |(have hn: -64<=n/\n<=63:=by omega
       have e2:Zfl (xs.take (k+1))=o++[n%128]:=by
         rw[ZgK _ _ hkl,Zm7]
         simp only[Zfl,List.append_nil]
         rw[he,Zd7 hn]
       refine⟨xs.length-(k+1),by omega,k+1,_,_,_,?_,by omega,rfl,rfl,rfl,rfl⟩
       rw[e2,Zc _ (by omega) (by omega),Yal];rfl)
  ·have nx:=trivial
   refine' ZcJ
   all_goals try simp(disch:=omega) only[NM,Nat.reduceBEq,reduceAdd,reduceMul,Int.reduceToNat,reduceSub,List.set_cons_zero,List.set_cons_succ]
   ·rw[Yad (by omega)];exact⟨rfl,rfl⟩
   all_goals(exfalso;omega)
end
section
def S19 (n k:Int):St:={ n:=11,slots:=[(0,.int .u64 n),(3,.int .i64 k)],mem:=[] }
theorem ZHz.NM:type_of% @MB.NM/\type_of% @S19.eq_1:=
 ⟨MB.NM,@S19.eq_1⟩
open ZHz
end
end Go.Proofs.YtimhmpdfioihlaaGreatDoor
namespace Go.Proofs.YtimhmpdfioihlaaGreatDoor
set_option maxRecDepth 20000
open Go Go.Abs
theorem ZuQ (bits:Int)(rest:List Int)(n k:Nat)(v at_:Int)(hk:7*(k:Int)<bits) :
 uRd bits (ZhK n++rest) (7*k) v at_=if n<2^(bits-7*k).toNat then(v+n*2^(7*k),at_+(ZhK n).length,0)else(0,0,6):=by
 induction n using Nat.strongRecOn generalizing k v at_ with
 |ind n ih=>
  have hc:((7*k:Nat):Int)=7*(k:Int):=by omega
  by_cases hn:n<128
  ·rw[Zd6 hn]
   simp only[List.cons_append,List.nil_append,uRd,hc,Yag,List.length_nil]
   have e1:(n:Int)%128=n:=by omega
   rw[e1]
   by_cases h7:bits-7*k<7
   ·by_cases hlt:n<2^(bits-7*k).toNat
    ·have hz:(n:Int)/2^(bits-7*(k:Int)).toNat=0:=Int.ediv_eq_zero_of_lt (by omega) (by exact_mod_cast hlt)
     rw[if_neg (by rintro(⟨_,h⟩|⟨_,h⟩);exact h hz;omega),if_pos (by omega),if_pos hlt];simp
    ·have hz:(n:Int)/2^(bits-7*(k:Int)).toNat≠0:=by
       intro h
       have hp:(0:Int)<2^(bits-7*(k:Int)).toNat:=Int.pow_pos (by decide)
       have h2:=Int.lt_ediv_add_one_mul_self (n:Int) hp
       rw[h]at h2
       exact hlt (by have:(n:Int)<2^(bits-7*(k:Int)).toNat:=by omega
                     exact_mod_cast this)
     rw[if_pos (.inl ⟨h7,hz⟩),if_neg hlt]
   ·have hlt:n<2^(bits-7*k).toNat:=Nat.lt_of_lt_of_le hn (Nat.pow_le_pow_right (n:=2) (i:=7) (by decide) (by omega))
    rw[if_neg (by rintro(⟨h,_⟩|⟨_,h⟩)<;>omega),if_pos (by omega),if_pos hlt];simp
  ·rw[Ziu hn]
   simp only[List.cons_append,uRd,hc,Yag]
   have e1:((n:Int)%128+128)%128=n%128:=by omega
   rw[e1]
   by_cases h7:bits-7*k<=7
   ·have hlt: ¬n<2^(bits-7*k).toNat:=by
      have:2^(bits-7*(k:Int)).toNat<=2^7:=Nat.pow_le_pow_right (by decide) (by omega)
      omega
    rw[if_pos (.inr ⟨h7,by omega⟩),if_neg hlt]
   ·rw[if_neg (by rintro(⟨h,_⟩|⟨h,_⟩)<;>omega),if_neg (by omega)]
    have:=ih (n/128) (by omega) (k+1) (v+(n:Int)%128*2^(7*k)) (at_+1) (by omega)
    rw[show 7*(k+1)=7*k+7 from by omega]at this
    rw[this]
    have ew:(bits-7*(k:Int)).toNat=(bits-7*((k+1:Nat):Int)).toNat+7:=by omega
    rw[ew]
    have ei:(n/128<2^(bits-7*((k+1:Nat):Int)).toNat)↔n<2^((bits-7*((k+1:Nat):Int)).toNat+7):=by
      rw[Nat.pow_add]
      generalize 2^(bits-7*((k+1:Nat):Int)).toNat=P
      simp only[Nat.reducePow];omega
    by_cases hlt:n<2^((bits-7*((k+1:Nat):Int)).toNat+7)
    ·rw[if_pos hlt,if_pos (ei.2 hlt)]
     refine Prod.ext ?_ (Prod.ext ?_ rfl)
     ·simp only
      rw[Int.pow_add]
      have hd:(n:Int)=n%128+128*((n/128:Nat):Int):=by omega
      generalize (2:Int)^(7*k)=P
      generalize ((n/128:Nat):Int)=q at *
      generalize (n:Int)%128=r at *
      rw[hd,Int.add_mul,Int.add_assoc]
      congr 2
      rw[show(2:Int)^7=128 from rfl,Int.mul_comm P,<- Int.mul_assoc,Int.mul_comm q]
     ·simp only;omega
    ·rw[if_neg hlt,if_neg (fun h=>hlt (ei.1 h))]
theorem ZAL (bits:Int)(rest:List Int)(n:Int)(k:Nat)(v at_:Int)(hk:7*(k:Int)<bits)(h64:bits<=64)(hv0:0<=v)(hv:v<2^(7*k)) :
 sRd bits (ZdD n++rest) (7*k) v at_=if -2^(bits-7*k-1).toNat<=n/\n<2^(bits-7*k-1).toNat then(v+n*2^(7*k),at_+(ZdD n).length,0)else(0,0,6):=by
 induction hN:n.natAbs using Nat.strongRecOn generalizing n k v at_ with
 |ind N ih=>
  have hc:((7*k:Nat):Int)=7*(k:Int):=by omega
  by_cases hs: -64<=n/\n<=63
  ·rw[Zd7 hs]
   simp only[List.cons_append,List.nil_append,sRd,hc,Yag,List.length_nil]
   have e1:n%128%128=n%128:=by omega
   have e2:sx (n%128)=n:=by unfold sx;split<;>omega
   have e3:ZwF (7*k+7) (v+n%128*2^(7*k))=v+n*2^(7*k):=by
     unfold ZwF
     rw[show 7*k+7-1=7*k+6 from by omega,Int.pow_add,Int.pow_add]
     generalize (2:Int)^(7*k)=P at *
     have h1:n*P<=63*P:=Int.mul_le_mul_of_nonneg_right hs.2 (by omega)
     have h2: -64*P<=n*P:=Int.mul_le_mul_of_nonneg_right hs.1 (by omega)
     by_cases hneg:0<=n
     ·rw[show n%128=n from by omega,if_pos (by omega)]
     ·rw[show n%128=n+128 from by omega,Int.add_mul,if_neg (by omega)];omega
   rw[e1,e2,e3]
   have hp:(0:Int)<2^(bits-7*(k:Int)-1).toNat:=Int.pow_pos (by decide)
   by_cases h7:bits-7*k<=7
   ·by_cases hr: -2^(bits-7*(k:Int)-1).toNat<=n/\n<2^(bits-7*(k:Int)-1).toNat
    ·have hz:n/2^(bits-7*(k:Int)-1).toNat=0\/n/2^(bits-7*(k:Int)-1).toNat= -1:=by
       by_cases h0:0<=n
       ·left;exact Int.ediv_eq_zero_of_lt h0 hr.2
       ·right
        have h1:=Int.lt_ediv_add_one_mul_self n hp
        have h2:=Int.ediv_mul_le n (b:=2^(bits-7*(k:Int)-1).toNat) (by omega)
        generalize (2:Int)^(bits-7*(k:Int)-1).toNat=P at *
        generalize n/P=q at *
        have h3:q<0:=Classical.byContradiction fun h=>by
         have:=Int.mul_nonneg (by omega:0<=q) (by omega:0<=P);omega
        have h4: -2<q:=Classical.byContradiction fun h=>by
         have:=Int.mul_le_mul_of_nonneg_right (by omega:q+1<= -1) (by omega:0<=P);omega
        omega
     rw[if_neg (by rintro⟨_,⟨a,b⟩|h⟩;exact hz.elim a b;omega),if_pos (by omega),if_pos hr];simp
    ·have hz:n/2^(bits-7*(k:Int)-1).toNat≠0/\n/2^(bits-7*(k:Int)-1).toNat≠ -1:=by
       have h1:=Int.lt_ediv_add_one_mul_self n hp
       have h2:=Int.ediv_mul_le n (b:=2^(bits-7*(k:Int)-1).toNat) (by omega)
       constructor<;>intro h<;>rw[h]at h1 h2<;>omega
     rw[if_pos ⟨h7,.inl hz⟩,if_neg hr]
   ·have hr: -2^(bits-7*(k:Int)-1).toNat<=n/\n<2^(bits-7*(k:Int)-1).toNat:=by
      have:(2:Int)^6<=2^(bits-7*(k:Int)-1).toNat:=by exact_mod_cast Nat.pow_le_pow_right (n:=2) (i:=6) (by decide) (by omega)
      omega
    rw[if_neg (by rintro⟨h,_⟩;omega),if_pos (by omega),if_pos hr];simp
  ·rw[Ziv hs]
   simp only[List.cons_append,sRd,hc,Yag]
   have e1:(n%128+128)%128=n%128:=by omega
   rw[e1]
   by_cases h7:bits-7*k<=7
   ·have hr: ¬(-2^(bits-7*(k:Int)-1).toNat<=n/\n<2^(bits-7*(k:Int)-1).toNat):=by
      have:(2:Int)^(bits-7*(k:Int)-1).toNat<=2^6:=by exact_mod_cast Nat.pow_le_pow_right (n:=2) (by decide) (by omega)
      omega
    rw[if_pos ⟨h7,.inr (by omega)⟩,if_neg hr]
   ·rw[if_neg (by rintro⟨h,_⟩;omega),if_neg (by omega)]
    have hb:=Zd5 hv0 hv (by omega:0<=n%128) (m:=7) (by omega)
    have:=ih (n/128).natAbs (by omega) (n/128) (k+1) (v+n%128*2^(7*k)) (at_+1) (by omega) hb.1 (by rw[show 7*(k+1)=7*k+7 from by omega];exact hb.2) rfl
    rw[show 7*(k+1)=7*k+7 from by omega]at this
    rw[this]
    have ew:(bits-7*(k:Int)-1).toNat=(bits-7*((k+1:Nat):Int)-1).toNat+7:=by omega
    rw[ew]
    have ei:(-2^(bits-7*((k+1:Nat):Int)-1).toNat<=n/128/\n/128<2^(bits-7*((k+1:Nat):Int)-1).toNat)↔(-2^((bits-7*((k+1:Nat):Int)-1).toNat+7)<=n/\n<2^((bits-7*((k+1:Nat):Int)-1).toNat+7)):=by
      rw[Int.pow_add]
      generalize (2:Int)^(bits-7*((k+1:Nat):Int)-1).toNat=P
      simp only[Int.reducePow];omega
    by_cases hlt:(-2^((bits-7*((k+1:Nat):Int)-1).toNat+7)<=n/\n<2^((bits-7*((k+1:Nat):Int)-1).toNat+7))
    ·rw[if_pos hlt,if_pos (ei.2 hlt)]
     refine Prod.ext ?_ (Prod.ext ?_ rfl)
     ·simp only
      rw[Int.pow_add]
      have hd:n=n%128+128*(n/128):=by omega
      generalize (2:Int)^(7*k)=P
      generalize n/128=q at *
      generalize n%128=r at *
      rw[hd,Int.add_mul,Int.add_assoc]
      congr 2
      rw[show(2:Int)^7=128 from rfl,Int.mul_comm P,<- Int.mul_assoc,Int.mul_comm q]
     ·simp only;omega
    ·rw[if_neg hlt,if_neg (fun h=>hlt (ei.1 h))]
end Go.Proofs.YtimhmpdfioihlaaGreatDoor
namespace Go.Proofs.YtimhmpdfioihlaaGreatDoor
set_option maxRecDepth 20000
open Go Go.Abs Nat
attribute [local irreducible] AW AWL AC FW CW CWr IntKind.wrap
section
theorem ZFd (h:9<Tryz.prog.types.size):(Tryz.prog.types[9]'h).bytes=16:=by kernel_rfl
theorem Zm9 (l:List (List UInt8))(x:List UInt8):ZCf l++[V.str x]=ZCf (l++[x]):=by simp[ZCf]
def W4 (s:List UInt8)(L:List (List UInt8))(f i:Int):St:={ n:=32,slots:=[(0,.str s),(2,.ref 2 0 0 1),(3,.ref 3 0 L.length 1),(4,.int .i64 f),(5,.int .i64 i)],mem:=[(3,⟨true,ZCf L⟩)] }
theorem ZCT.NM:type_of% @MB.NM/\type_of% @Zb5/\type_of% @Zas/\type_of% @W4.eq_1/\type_of% @Zm9:=
 ⟨MB.NM,@Zb5,@Zas,@W4.eq_1,@Zm9⟩
open ZCT
end
section
def N6 (s:List UInt8)(b x i:Int):St:={ n:=35,slots:=[(0,.str s),(1,.int .i64 b),(4,.int .i64 0),(5,.int .i64 x),(6,.int .i64 i)],mem:=[] }
theorem ZAM.NM:type_of% @MB.NM/\type_of% @Zb5/\type_of% @Zas/\type_of% @N6.eq_1:=
 ⟨MB.NM,@Zb5,@Zas,@N6.eq_1⟩
open ZAM
end
section
def Y4 (s:List UInt8)(L:List Int)(i:Int):St:={ n:=33,slots:=[(0,.str s),(2,.ref 2 0 0 1),(3,.ref 3 0 L.length 1),(4,.int .i64 i)],mem:=[(3,⟨true,Zi .i64 L⟩)] }
theorem ZHA.NM:type_of% @MB.NM/\type_of% @Zb5/\type_of% @Zas/\type_of% @Y4.eq_1:=
 ⟨MB.NM,@Zb5,@Zas,@Y4.eq_1⟩
open ZHA
end
section
def ZFe:List (Int×Int):=[(42,43),(56,57),(67,68),(91,102),(139,166),(168,171),(174,191),(64787,64788),(64799,64802),(64833,64844),(64862,64863),(64871,64874),(64884,64885),(64890,64890),(64916,64916),(64992,65023)]
def flS (op:Int):Bool:=ZFe.any fun p=>decide (p.1<=op/\op<=p.2)
theorem ZeG (op:Int):flS op=true↔((42<=op/\op<=43)\/(56<=op/\op<=57)\/(67<=op/\op<=68)\/(91<=op/\op<=102)\/(139<=op/\op<=166)\/(168<=op/\op<=171)\/(174<=op/\op<=191)\/(64787<=op/\op<=64788)\/(64799<=op/\op<=64802)\/(64833<=op/\op<=64844)\/(64862<=op/\op<=64863)\/(64871<=op/\op<=64874)\/(64884<=op/\op<=64885)\/(64890<=op/\op<=64890)\/(64916<=op/\op<=64916)\/(64992<=op/\op<=65023)):=by
 simp only[flS,ZFe,List.any_cons,List.any_nil,Bool.or_false,Bool.or_eq_true,Yaz]
theorem Zz0 {op:Int}(h:flS op=true↔True):V.bool true=V.bool (flS op):=by rw[h.2 trivial]
theorem ZCU {op:Int}(h:flS op=true->False):V.bool false=V.bool (flS op):=by
 cases e:flS op with
 |false=>rfl
 |true=>exact(h e).elim
theorem Zz1 {P:Prop}[Decidable P]{op:Int}(h:P↔flS op=true):V.bool (decide P)=V.bool (flS op):=by
 cases e:flS op with
 |false=>rw[Yaf (fun hp=>by rw[h.1 hp]at e;cases e)]
 |true=>rw[Yae (h.2 e)]
def F3 (op:Int)(L:List Int)(i:Int):St:={ n:=27,slots:=[(0,.int .i64 op),(2,.bool false),(3,.ref 3 0 32 1),(4,.int .i64 i)],mem:=[(3,⟨true,Zi .i64 L⟩)] }
theorem ZFf.NM:type_of% @MB.NM/\type_of% @Zb5/\type_of% @Zas/\type_of% @F3.eq_1:=
 ⟨MB.NM,@Zb5,@Zas,@F3.eq_1⟩
open ZFf
end
section
def S33 (l:List Int)(x i:Int):St:={ n:=22,slots:=[(3,.int .u64 x),(6,.view l.length 1 (Zi .u8 l)),(7,.int .i64 l.length),(8,.int .i64 i)],mem:=[] }
theorem ZGG {c:Int}{k:Nat}(hc:byte c)(hk:k<8):IntKind.u64.wrap (c*2^min (8*(k:Int)).toNat IntKind.u64.bits)=c*2^(8*k):=by
 have e:min (8*(k:Int)).toNat IntKind.u64.bits=8*k:=by rw[Nat.min_eq_left (by show _<=64;omega)];omega
 rw[e]
 unfold byte at hc
 have hp:(0:Int)<2^(8*k):=Int.pow_pos (by decide)
 have h1:c*2^(8*k)<=255*2^(8*k):=Int.mul_le_mul_of_nonneg_right hc.2 (by omega)
 have h2:(2:Int)^(8*(k+1))<=2^64:=by exact_mod_cast Nat.pow_le_pow_right (by decide) (by omega)
 rw[ZCg]at h2
 exact Zb0 rfl (Int.mul_nonneg hc.1 (by omega)) (by show _<(2:Int)^64;omega)
theorem or8 {x c:Int}{k:Nat}(hx:0<=x/\x<2^(8*k))(hc:byte c)(hk:k<8):Zt .or .u64 x (c*2^(8*k))=x+c*2^(8*k):=by
 unfold byte at hc
 have hp:(0:Int)<2^(8*k):=Int.pow_pos (by decide)
 have h1:c*2^(8*k)<=255*2^(8*k):=Int.mul_le_mul_of_nonneg_right hc.2 (by omega)
 have h2:(2:Int)^(8*(k+1))<=2^64:=by exact_mod_cast Nat.pow_le_pow_right (by decide) (by omega)
 rw[ZCg]at h2
 exact ZpW (k:= .u64) (8*k) hx.1 hx.2 hc.1 (by show _<(2:Int)^64;omega) (.inl rfl)
theorem ZFg.NM:type_of% @NSX/\type_of% @St.keepS.eq_1/\type_of% @TY/\type_of% @SLS/\type_of% @Zdn/\type_of% @Zkq/\type_of% @dz/\type_of% @Zb/\type_of% @S33.eq_1:=
 ⟨NSX,St.keepS.eq_1,@TY,@SLS,@Zdn,@Zkq,@dz,@Zb,@S33.eq_1⟩
open ZFg
theorem ZCV.sd {p:Prop}(h:p:=by first|exact Zw5):p:=h
open ZCV ZAG in
theorem ZAN (l:List Int)(hb:bytes l)(hl:l.length<=8):AC Tryz.prog 176 [.view l.length 1 (Zi .u8 l)] (fun r m=>r= .int .u64 (le l)/\m=[]):=by
 refine AC.enter Tryz.func176 rfl (Yaa rfl) ?_
 simp only[Tryz.f176]
 have nx:=trivial
 refine' Zey
 refine AW.loop [3,6,7,8] [] (fun n st=> ∃(k:Nat),st=S33 l (le (l.take k)) k/\k<=l.length/\n=l.length-k) ?_ ?_
 ·exact⟨_,0,rfl,Nat.zero_le _,rfl⟩
 ·rintro n st ⟨k,rfl,hk,rfl⟩
  by_cases hkl:k<l.length
  ·have hc:=ZaI hb hkl
   have hx:=ZdE (ZbF hb k)
   rw[Yar,Nat.min_eq_left (by omega)]at hx
   have e1:=ZGG hc (by omega:k<8)
   have e2:=or8 hx hc (by omega:k<8)
   have e3:IntKind.u64.wrap (l.getD k 0)=l.getD k 0:=by unfold byte at hc;exact Zb0 rfl hc.1 (by show _<(18446744073709551616:Int);omega)
   have e4:IntKind.i64.wrap (8*(k:Int))=8*k:=Zc _ (by omega) (by omega)
   have e5:IntKind.i64.wrap ((k:Int)+1)=k+1:=Zc _ (by omega) (by omega)
   have nx:=aI @e1 (aI @e2 (aI @e3 (aI @e4 (aI @e5 trivial))))
   refine' Zey
   all_goals try simp(disch:=omega) only[NM,Nat.reduceBEq,reduceAdd,reduceMul,Int.reduceToNat,reduceSub,List.set_cons_zero,List.set_cons_succ,e1,e2,e3,e4,e5]
   all_goals first
    |exact⟨l.length-(k+1),by omega,k+1,by rw[Zlh hkl];rfl,by omega,rfl⟩
  ·have nx:=trivial
   refine' Zey
   all_goals try simp(disch:=omega) only[NM,Nat.reduceBEq,reduceAdd,reduceMul,Int.reduceToNat,reduceSub,List.set_cons_zero,List.set_cons_succ]
   ·rw[Yad (by omega)];exact⟨rfl,trivial⟩
theorem ZuR (n:Nat)(l:List Int)(hn:n=l.length)(hb:bytes l)(hl:l.length<=8):AC Tryz.prog 176 [.view n 1 (Zi .u8 l)] (fun r m=>r= .int .u64 (le l)/\m=[]):=by
 subst hn;exact ZAN l hb hl
end
section
def J19 (l h:Int)(v:List Int)(k:Int):St:={ n:=27,slots:=[(0,.agg [.int .u64 l,.int .u64 h]),(1,.ptr 1 0),(2,.ptr 2 0),(3,.ptr 3 0),(5,.int .i64 k)],mem:=[(1,⟨false,[.int .u64 l,.int .u64 h]⟩),(2,⟨true,Zi .u8 Zju⟩),(3,⟨true,Zi .u8 v⟩)] }
def jn (l h:Int)(k:Nat):List Int:=Zh3 (Zh3 Zju 0 (toB k l)) 8 (toB k h)
theorem Zz2 (l h:Int)(k:Nat)(hk:k<=8):(jn l h k).length=16:=by
 unfold jn
 rw[Zkp,Zkp]<;>simp[Zch,Zju,Zh3]<;>omega
theorem ZHB (l h:Int):jn l h 8=join l h:=by
 unfold jn join
 simp[Zh3,toB,Zju]
theorem ZAO (l h:Int)(k:Nat)(hk:k<8):ZnO (ZnO (jn l h k) k (l/2^(8*k)%256)) (8+k) (h/2^(8*k)%256)=jn l h (k+1):=by
 unfold jn
 rw[Zqq,Zqq]
 have:k=0\/k=1\/k=2\/k=3\/k=4\/k=5\/k=6\/k=7:=by omega
 rcases this with rfl|rfl|rfl|rfl|rfl|rfl|rfl|rfl<;>simp[Zh3,ZnO,toB,Zju]
theorem ZFh.NM:type_of% @NSX/\type_of% @St.keepS.eq_1/\type_of% @TY/\type_of% @SLS/\type_of% @Zdn/\type_of% @Zkq/\type_of% @dz/\type_of% @Zb/\type_of% @J19.eq_1:=
 ⟨NSX,St.keepS.eq_1,@TY,@SLS,@Zdn,@Zkq,@dz,@Zb,@J19.eq_1⟩
open ZFh
theorem ZCW.sd {p:Prop}(h:p:=by first|exact Zxg|exact Zxj):p:=h
open ZCW Zuu in
theorem ZAP (l h:Int)(hl:0<=l)(hh:0<=h):AC Tryz.prog 140 [.agg [.int .u64 l,.int .u64 h]] (fun r m=>r= .fagg (Zi .u8 (join l h))/\m=[]):=by
 have hj8:=Zz2 l h 8 (by omega)
 refine AC.enter Tryz.func140 rfl (Yaa rfl) ?_
 simp only[Tryz.f140]
 have nx:=trivial
 refine' Zk8
 refine AW.loop [0,1,2,3,5] [1,2,3] (fun m st=> ∃k:Nat,st=J19 l h (jn l h k) k/\k<=8/\m=8-k) ?_ ?_
 ·exact⟨_,0,rfl,Nat.zero_le _,rfl⟩
 ·rintro m st ⟨k,rfl,hk,rfl⟩
  have hsp:=Zz2 l h k hk
  by_cases hk8:k<8
  ·have e1:=ZCO (k:=k) hl (by omega)
   have e2:=ZCO (k:=k) hh (by omega)
   have e4:IntKind.i64.wrap (8*(k:Int))=8*k:=Zc _ (by omega) (by omega)
   have e5:IntKind.i64.wrap ((k:Int)+1)=k+1:=Zc _ (by omega) (by omega)
   have e6:IntKind.i64.wrap (8+(k:Int))=((8+k:Nat):Int):=by rw[Zc _ (by omega) (by omega)];omega
   have e7:=ZAO l h k hk8
   have e8:(ZnO (jn l h k) k (l/2^(8*k)%256)).length=16:=by rw[ZwX _ (by omega),hsp]
   have nx:=aI @e1 (aI @e2 (aI @e4 (aI @e5 (aI @e6 (aI @ZCP (aI @Zb (aI @hsp (aI @e8 trivial))))))))
   refine' Zk8
   all_goals try simp(disch:=omega) only[NM,Nat.reduceBEq,reduceAdd,reduceMul,Int.reduceToNat,reduceSub,List.set_cons_zero,List.set_cons_succ,e1,e2,e4,e5,e6,ZCP,Zb,hsp,e8]
   all_goals first
    |exact⟨8-(k+1),by omega,k+1,by rw[<- e7];rfl,by omega,rfl⟩
    |(exfalso;omega)
  ·obtain rfl:k=8:=by omega
   rw[ZHB]at hsp ⊢
   have hd:List.drop 16 (Zi .u8 (join l h))=[]:=Ya7 (by rw[Zb];omega)
   have nx:=aI @hsp (aI @Zdn (aI @Zb (aI @dz (aI @hd trivial))))
   refine' Zk8
   all_goals first|exact⟨trivial,trivial⟩|exact⟨rfl,trivial⟩|exact⟨rfl,rfl⟩|exact⟨trivial,rfl⟩|(exfalso;omega)|trace_state
end
end Go.Proofs.YtimhmpdfioihlaaGreatDoor
namespace Go.Abs
set_option maxRecDepth 20000
open Go Go.RowKit
section
section
variable {P:Program}{C:Ctx}{st st':St}{a:Act}{w:World}{l:List Oper}{o:Oper}{Q:Exit->St->Prop}{L:Array Bool}{n:Nat}
def AT (P:Program)(l:List Oper)(Q:Exit->St->Prop)(L:Array Bool)(n:Nat)(st:St):Prop:=
 ∀(C:Ctx) (a:Act) (w:World) (ls:List Nat),Ze9 l L ls->SRx C st a w->wpAny P .any l.toArray (AQ C Q) n L a w
theorem Zr {p:Nat->Prop}{a:Nat}(h:p a): ∀j∈[a],p j:=fun j hj=>by rw[List.mem_singleton.1 hj];exact h
theorem Z8 {p:Nat->Prop}{a b:Nat}(h:p a)(h2:p b): ∀j∈[a,b],p j:=fun j hj=>by
 rcases Yav.1 hj with rfl|hj
 ·exact h
 ·exact Zr h2 j hj
theorem ZuS {p:Nat->Prop}{a b c:Nat}(h:p a)(h2:p b)(h3:p c): ∀j∈[a,b,c],p j:=fun j hj=>by
 rcases Yav.1 hj with rfl|hj
 ·exact h
 ·exact Z8 h2 h3 j hj
def ATQ (Q:Exit->St->Prop)(X:St->Prop):Exit->St->Prop:=fun e s=>match e with
 |.normal=>X s
 |e=>Q e s
theorem ZAQ {K:Act->World->Prop}{Q1 Q2:Exit->Act->World->Prop}(h1: ∀c,Q1 (.panic c)=Q2 (.panic c))(h2:Q1 .outgrown=Q2 .outgrown)(r:Result Next):o.upon P a K Q1 r=o.upon P a K Q2 r:=by
 have h3:LetsOut Q1=LetsOut Q2:=by unfold LetsOut;rw[h2]
 unfold Oper.upon
 split<;>simp only[h1,h3]
theorem ZrA {X:St->Prop}{K:Act->World->Prop}{i:Nat}(hK: ∀a w,(∃s,X s/\SRx C s a w)->K a w)(ho:l[i]? = some o)(h:wpList P l.toArray (AQ C (ATQ Q X)) [o] a w):wpOp P l.toArray (AQ C Q) i K a w:=by
 unfold wpOp
 rw[show l.toArray[i]? = some o from by simpa using ho]
 simp only
 have h:(if Region.wanted o (yielded l.toArray a.tmps)then o.wp P a w (wpList P l.toArray (AQ C (ATQ Q X)) []) (AQ C (ATQ Q X))\/(o.asks P a w/\LetsOut (AQ C (ATQ Q X)))else wpList P l.toArray (AQ C (ATQ Q X)) [] (a.put o.dst undef) w):=h
 have hk: ∀a w,wpList P l.toArray (AQ C (ATQ Q X)) [] a w->K a w:=fun a w ⟨s,hs,hr⟩=>hK a w ⟨s,hs,hr⟩
 split at h
 ·rename_i hw
  rw[if_pos hw]
  rcases h with h|⟨h1,h2⟩
  ·refine .inl (Oper.wp_mono hk ?_)
   unfold Oper.wp at h ⊢
   have e:=ZAQ (P:=P) (o:=o) (a:=a) (K:=wpList P l.toArray (AQ C (ATQ Q X)) []) (Q1:=AQ C (ATQ Q X)) (Q2:=AQ C Q) (fun _=>rfl) rfl ((execOp a.eval o).run P w)
   rw[e]at h
   exact h
  ·exact .inr ⟨h1,h2⟩
 ·rename_i hw
  rw[if_neg hw]
  exact hk _ _ h
theorem AW.drawT {id:Nat}{L0:Array Bool}(hL:Array.replicate l.length false=L0)(hm:P.follows .mixedOrders=true)(h:AT P l Q L0 l.length st):AW P (.region id l.toArray true) Q st:=fun C a w hs=>by
 subst hL
 refine wp_region_any hm ?_
 have hsz:l.toArray.size=l.length:=by simp
 rw[hsz]
 have hnone0: ∀j,¬LS (Array.replicate l.length false) j:=fun j hL=>by
  unfold LS at hL
  simp only[Yan,Array.getElem?_replicate]at hL
  split at hL<;>cases hL
 obtain⟨S,β,hs⟩:=hs
 refine h C a _ [] ⟨by simp,List.nodup_nil,fun j=> ?_,fun j hj=>(by cases hj),fun i o _ hL=>absurd hL (hnone0 _)⟩ (hs.drawn _)
 constructor
 ·intro h;cases h
 ·intro h;exact absurd h (hnone0 _)
theorem AT.step (R:List Nat)(hR:Region.ready .any l.toArray L=R)(hne:R≠[])
 (h: ∀i∈R,∃o L',l[i]? = some o/\L.setIfInBounds i true=L'/\AWL P l.toArray [o] (ATQ Q (AT P l Q L' n)) st):AT P l Q L (n+1) st:=fun C a w ls hl hs=>by
 refine wpAny_all hR hne fun i hi=> ?_
 obtain⟨o,L',ho,rfl,hA⟩:=h i hi
 have hi':i∈Region.ready .any l.toArray L:=by rw[hR];exact hi
 exact ZrA (fun a' w' ⟨s,h1,h2⟩=>h1 C a' w' _ (hl.step hi') h2) ho (hA C a w hs)
theorem AT.done (hR:Region.ready .any l.toArray L=[])(h:Q .normal st):AT P l Q L n st:=fun C a w ls hl hs=>wpAny_done hR ⟨st,h,hs⟩ n
theorem Zyq (hpan:ZcQ Q){d:Nat}{v:Value}: ∀c (a:Act) (w:World),AQ C Q (.panic c) (a.put (some d) v) w->AQ C Q (.panic c) a w:=fun c a w ⟨s,hq,S,β,hs⟩=>⟨_,hpan c s d hq,S,β,hs.unput⟩
theorem AT.takeM (i:Nat){L':Array Bool}{d:Nat}{x:Operand}(ho:l[i]? = some o)(hg:o.guard=none)(hd:o.dst=some d)(hop:o.op= .move x)(hdn:Nat.ble (d+1) st.n=true)(hpan:ZcQ Q)
 (hchk:(Region.noSelect l.toArray&&Region.free .any l.toArray L i&&(Region.ready .any l.toArray L).contains i)=true) (hL:L.setIfInBounds i true=L') (h:AT P l Q L' n (st.put d (st.ev x))):AT P l Q L (n+1) st:=fun C a w ls hl ⟨S,β,hs⟩=>by
 subst hL
 simp only[Yao]at hchk
 refine wpAny_take (v:=a.eval x) (by simpa using ho) hchk.1.1 hchk.1.2 hchk.2 ?_ (.inl ⟨by simp[Region.wanted,hg],fun w=> ?_⟩) ?_
 ·rw[hd];exact Zyq hpan
 ·unfold execOp;simp[hop]
 ·rw[hd]
  exact h C _ w _ (hl.step (by simpa using hchk.2)) ⟨S,β,hs.put (Yaa hdn) (Zag hs x)⟩
theorem AT.takeN (i:Nat){L':Array Bool}{d k off:Nat}{x:Operand}(ho:l[i]? = some o)(hg:o.guard=none)(hd:o.dst=some d)(hop:o.op= .nilCheck x)(hx:st.ev x= .ptr k off)(hdn:Nat.ble (d+1) st.n=true)(hpan:ZcQ Q)
 (hchk:(Region.noSelect l.toArray&&Region.free .any l.toArray L i&&(Region.ready .any l.toArray L).contains i)=true) (hL:L.setIfInBounds i true=L') (h:AT P l Q L' n (st.put d (.ptr k off))):AT P l Q L (n+1) st:=fun C a w ls hl ⟨S,β,hs⟩=>by
 subst hL
 simp only[Yao]at hchk
 have h0:=Zag hs x
 rw[hx]at h0
 obtain⟨bi,hbi,hu⟩:=VR.ptr_inv h0
 refine wpAny_take (v:= .pointer (some ⟨bi.blk,bi.off+off,none⟩)) (by simpa using ho) hchk.1.1 hchk.1.2 hchk.2 ?_ (.inl ⟨by simp[Region.wanted,hg],fun w=> ?_⟩) ?_
 ·rw[hd];exact Zyq hpan
 ·unfold execOp;simp[hop,hu]
 ·rw[hd]
  exact h C _ w _ (hl.step (by simpa using hchk.2)) ⟨S,β,hs.put (Yaa hdn) (.ptr k off bi hbi)⟩
theorem AT.takeF (i:Nat){L':Array Bool}{d k off f o2 m:Nat}{bb:Bool}{t ty:TypeId}{x:Operand}(ho:l[i]? = some o)(hg:o.guard=none)(hd:o.dst=some d)(hop:o.op= .fieldAddr t x f)(hx:st.ev x= .ptr k off)(hf:ZCi P t f=some (o2,bb,m,ty))(hm:Nat.ble 1 m=true)(hdn:Nat.ble (d+1) st.n=true)(hpan:ZcQ Q)
 (hchk:(Region.noSelect l.toArray&&Region.free .any l.toArray L i&&(Region.ready .any l.toArray L).contains i)=true) (hL:L.setIfInBounds i true=L') (h:AT P l Q L' n (st.put d (.ptr k (off+o2)))):AT P l Q L (n+1) st:=fun C a w ls hl ⟨S,β,hs⟩=>by
 subst hL
 simp only[Yao]at hchk
 have h0:=Zag hs x
 rw[hx]at h0
 obtain⟨bi,hbi,hu⟩:=VR.ptr_inv h0
 obtain⟨fs,g,hfs,hg2,rfl,hb,hn⟩:=ZiI hf
 have hpos:m≠0:=by have:=Yaa hm;omega
 refine wpAny_take (v:= .pointer (some ⟨bi.blk,bi.off+(off+g.offset),none⟩)) (by simpa using ho) hchk.1.1 hchk.1.2 hchk.2 ?_ (.inl ⟨by simp[Region.wanted,hg],fun w=> ?_⟩) ?_
 ·rw[hd];exact Zyq hpan
 ·unfold execOp;simp[hop,hu,Instr.fieldAt,run_underlying hfs,hg2,Instr.sureAddr,fieldPlace,Zdg hn,hpos,ZaP,Nat.add_assoc]
 ·rw[hd]
  exact h C _ w _ (hl.step (by simpa using hchk.2)) ⟨S,β,hs.put (Yaa hdn) (.ptr k (off+g.offset) bi hbi)⟩
theorem AT.via (L1:Array Bool)(n1:Nat)(s1:St)(h1:AT P l Q L1 n1 s1)(h2:AT P l Q L1 n1 s1->AT P l Q L n st):AT P l Q L n st:=h2 h1
theorem AT.keep (is ks:List Nat)(h:AT P l Q L n (st.keep is ks)):AT P l Q L n st:=fun C a w ls hl ⟨S,β,hs⟩=>h C a w ls hl ⟨S,β,hs.keep is ks⟩
end
end
end Go.Abs
namespace Go.Proofs.YtimhmpdfioihlaaGreatDoor
set_option maxRecDepth 20000
open Go Go.Abs
theorem Zqr {l:List Int}{k:Nat}(h:Zjs l=some k):1<=k/\k<=l.length:=by
 unfold Zjs at h
 split at h
 ·cases h
 ·repeat' split at h
  all_goals first
   |(cases h;done)
   |(simp only[Yac]at h;subst h;simp only[Yag];omega)
theorem Zna: ∀(n m:Nat) (l:List Int),l.length<=n->l.length<=m->Zfj n l=Zfj m l
 |0,0,_,_,_=>rfl
 |0,m+1,l,h,_=>by
  have:l=[]:=Yay (by omega)
  subst this;rw[Zfj,Zfj,if_pos rfl]
 |n+1,0,l,_,h=>by
  have:l=[]:=Yay (by omega)
  subst this;rw[Zfj,Zfj,if_pos rfl]
 |n+1,m+1,l,h1,h2=>by
  rw[Zfj,Zfj]
  split
  ·rfl
  ·cases hs:Zjs l with
   |none=>rfl
   |some k=>
    have:=Zqr hs
    exact Zna n m _ (by rw[Yaw];omega) (by rw[Yaw];omega)
theorem Zgo {l:List Int}(hne:l≠[]):ZaV l=match Zjs l with
 |none=>false
 |some k=>ZaV (l.drop k):=by
 unfold ZaV
 cases hl:l.length with
 |zero=>exact absurd (Yay hl) hne
 |succ n=>
  rw[Zfj,if_neg hne]
  cases hs:Zjs l with
  |none=>rfl
  |some k=>
   have:=Zqr hs
   exact Zna _ _ _ (by rw[Yaw];omega) (Nat.le_refl _)
theorem Zkr:ZaV []=true:=rfl
theorem ZhN {c:Int}{l:List Int}(h:c<128):ZaV (c::l)=ZaV l:=by
 rw[Zgo (List.cons_ne_nil _ _)]
 have:Zjs (c::l)=some 1:=if_pos h
 rw[this];rfl
theorem Zjv: ∀(n:Nat) (l:List Int),n<=l.length->(∀x∈l.take n,x<128)->ZaV l=ZaV (l.drop n)
 |0,l,_,_=>by rw[List.drop_zero]
 |n+1,[],h,_=>by simp at h
 |n+1,c::l,h,ha=>by
  rw[ZhN (ha c (by simp)),List.drop_succ_cons]
  exact Zjv n l (by simpa using h) fun x hx=>ha x (by simp[hx])
theorem ZoI: ∀c:Fin 256,128<=c.val->
 ((c.val<194\/c.val>244)/\Zca.getD c.val 0=241)\/((194<=c.val/\c.val<=223)/\Zca.getD c.val 0=2)\/(c.val=224/\Zca.getD c.val 0=19)\/(((225<=c.val/\c.val<=236)\/(238<=c.val/\c.val<=239))/\Zca.getD c.val 0=3)\/
 (c.val=237/\Zca.getD c.val 0=35)\/(c.val=240/\Zca.getD c.val 0=52)\/((241<=c.val/\c.val<=243)/\Zca.getD c.val 0=4)\/(c.val=244/\Zca.getD c.val 0=68):=by decide +kernel
theorem ZuT (a b:Nat):(a &&& b=0)↔(a%256 &&& b%256=0/\a/256 &&& b/256=0):=by
 have h1:(a &&& b)%256=a%256 &&& b%256:=by
  have:= @Nat.and_mod_two_pow a b 8
  simpa using this
 have h2:(a &&& b)/256=a/256 &&& b/256:=by
  have:= @Nat.and_div_two_pow a b 8
  simpa using this
 rw[<- h1,<- h2]
 omega
theorem ZCX: ∀x:Fin 256,(x.val &&& 128=0)↔x.val<128:=by decide +kernel
def Zc8:Nat->Nat
 |0=>0
 |n+1=>128+256*Zc8 n
theorem ZuU: ∀(l:List Int),bytes l->((le l).toNat &&& Zc8 l.length=0 ↔ ∀x∈l,x<128)
 |[],_=>by simp[le]
 |x::l,h=>by
  have hx:=h x (List.mem_cons_self ..)
  have hl:bytes l:=fun y hy=>h y (Yaq _ hy)
  have h0:=ZdE hl
  unfold byte at hx
  rw[ZuT,le,Yag,Zc8]
  have e1:(x+256*le l).toNat%256=x.toNat:=by omega
  have e2:(x+256*le l).toNat/256=(le l).toNat:=by omega
  have e3:(128+256*Zc8 l.length)%256=128:=by omega
  have e4:(128+256*Zc8 l.length)/256=Zc8 l.length:=by omega
  rw[e1,e2,e3,e4,ZuU l hl]
  have:=ZCX ⟨x.toNat,by omega⟩
  simp only at this
  rw[this]
  simp only[Yav,forall_eq_or_imp]
  constructor
  ·rintro⟨h1,h2⟩;exact⟨by omega,h2⟩
  ·rintro⟨h1,h2⟩;exact⟨by omega,h2⟩
theorem ZAR (a b m:Nat):((a ||| b) &&& m=0)↔(a &&& m=0/\b &&& m=0):=by
 rw[Nat.and_or_distrib_right]
 exact Nat.or_eq_zero_iff
theorem ZuV {a b:Int}(ha:0<=a/\a<18446744073709551616)(hb:0<=b/\b<18446744073709551616):Zt .or .u64 a b=((a.toNat ||| b.toNat:Nat):Int)/\(a.toNat ||| b.toNat)<18446744073709551616:=by
 have h2:(a.toNat ||| b.toNat)<2^64:=Nat.or_lt_two_pow (by omega) (by omega)
 refine⟨?_,h2⟩
 unfold Zt
 simp only[BitVec.toNat_or]
 rw[ZaN (w:=IntKind.u64.bits) ha.1 (by show a<2^64;omega),ZaN (w:=IntKind.u64.bits) hb.1 (by show b<2^64;omega)]
 exact Zb0 rfl (by omega) (by show _<(2:Int)^64;exact_mod_cast h2)
theorem Zyr {a b:Int}(ha:0<=a/\a<18446744073709551616)(hb:0<=b/\b<18446744073709551616):Zt .and .u64 a b=((a.toNat &&& b.toNat:Nat):Int):=by
 have h2:(a.toNat &&& b.toNat)<2^64:=Nat.and_lt_two_pow _ (by omega)
 unfold Zt
 simp only[BitVec.toNat_and]
 rw[ZaN (w:=IntKind.u64.bits) ha.1 (by show a<2^64;omega),ZaN (w:=IntKind.u64.bits) hb.1 (by show b<2^64;omega)]
 exact Zb0 rfl (by omega) (by show _<(2:Int)^64;exact_mod_cast h2)
theorem Znb {a:Int}(ha:0<=a/\a<18446744073709551616):Zt .and .u64 a 9259542123273814144=((a.toNat &&& Zc8 8:Nat):Int):=by
 rw[Zyr ha ⟨by decide,by decide⟩];rfl
theorem Zks {a:Int}(ha:0<=a/\a<18446744073709551616)(h:a.toNat &&& Zc8 8=0):(Zt .and .u64 a 9259542123273814144==0)=true:=by
 rw[Znb ha,h];rfl
theorem Zkt {a:Int}(ha:0<=a/\a<18446744073709551616)(h: ¬a.toNat &&& Zc8 8=0):(Zt .and .u64 a 9259542123273814144==0)=false:=by
 rw[Znb ha,Yam]
 exact fun h2=>h (Int.natCast_eq_zero.1 h2)
theorem Za0 {l:List Int}(hb:bytes l)(h:8<=l.length):0<=le (l.take 8)/\le (l.take 8)<18446744073709551616:=by
 have hw:=ZdE (ZbF hb 8)
 rw[Yar,Nat.min_eq_left (by omega)]at hw
 exact⟨hw.1,by have:=hw.2;omega⟩
theorem ZdF {l:List Int}(hb:bytes l)(h:8<=l.length)(hz:(le (l.take 8)).toNat &&& Zc8 8=0):ZaV l=ZaV (l.drop 8):=by
 have hm:=ZuU (l.take 8) (ZbF hb 8)
 rw[Yar,Nat.min_eq_left (by omega)]at hm
 exact Zjv 8 l h (hm.1 hz)
theorem Znc {a b:Int}(ha:0<=a/\a<18446744073709551616)(hb:0<=b/\b<18446744073709551616):0<=Zt .or .u64 a b/\Zt .or .u64 a b<18446744073709551616:=by
 have:=ZuV ha hb
 rw[this.1];omega
theorem Znd {a b:Int}(ha:0<=a/\a<18446744073709551616)(hb:0<=b/\b<18446744073709551616)(m:Nat):((Zt .or .u64 a b).toNat &&& m=0)↔(a.toNat &&& m=0/\b.toNat &&& m=0):=by
 rw[(ZuV ha hb).1,Yap];exact ZAR _ _ _
theorem Zci {l q:List Int}{k:Nat}(h:l.drop k=q)(hb:bytes l):bytes q/\q.length=l.length-k/\List.take (l.length-k) q=q:=by
 have hz:q.length=l.length-k:=by rw[<- h,Yaw]
 exact⟨fun x hx=>hb x (List.mem_of_mem_drop (h▸hx)),hz,by rw[<- hz];exact Yau⟩
theorem gV0:gV 0= .vptr (Zi .u8 Zca):=rfl
theorem gV1:gV 1= .vptr (Zi .u8 Z5):=rfl
theorem Zne:Zca.length=256:=rfl
theorem Zqs {xs:List Int}{k:Nat}{x:Int}(h:k<xs.length)(hx:xs.getD k 0=x):vi ((List.drop k (List.map (V.int .u8) xs)).getD 0 .any)=x:=by
 rw[Yah,Ya2,Nat.add_zero,Yas,Yab h,<- hx,Yah,Yab h];rfl
theorem Zku {c:Int}(hc:byte c)(h: ¬c<128)(l:List Int): ∃x:Int,Zca.getD c.toNat 0=x/\
 ((x=241/\Zjs (c::l)=none)\/
  (x=2/\Zjs (c::l)=if 1<=l.length/\128<=l.getD 0 0/\l.getD 0 0<=191 then some 2 else none)\/
  ((x=19\/x=3\/x=35)/\Zjs (c::l)=if 2<=l.length/\Z5.getD (2*(x/16).toNat) 0<=l.getD 0 0/\l.getD 0 0<=Z5.getD (2*(x/16).toNat+1) 0/\128<=l.getD 1 0/\l.getD 1 0<=191 then some 3 else none)\/
  ((x=52\/x=4\/x=68)/\Zjs (c::l)=if 3<=l.length/\Z5.getD (2*(x/16).toNat) 0<=l.getD 0 0/\l.getD 0 0<=Z5.getD (2*(x/16).toNat+1) 0/\128<=l.getD 1 0/\l.getD 1 0<=191/\128<=l.getD 2 0/\l.getD 2 0<=191 then some 4 else none)):=by
 unfold byte at hc
 refine⟨_,rfl,?_⟩
 have hf:=ZoI ⟨c.toNat,by omega⟩ (by show 128<=c.toNat;omega)
 simp only at hf
 show(_/\(if c<128 then _ else _)=_)\/(_/\(if c<128 then _ else _)=_)\/(_/\(if c<128 then _ else _)=_)\/(_/\(if c<128 then _ else _)=_)
 rw[if_neg h]
 rcases hf with⟨h1,hx⟩|⟨h1,hx⟩|⟨h1,hx⟩|⟨h1,hx⟩|⟨h1,hx⟩|⟨h1,hx⟩|⟨h1,hx⟩|⟨h1,hx⟩<;>rw[hx]
 ·exact .inl ⟨rfl,by rw[if_neg (by omega),if_neg (by omega),if_neg (by omega)]⟩
 ·exact .inr (.inl ⟨rfl,by rw[if_pos (by omega)]⟩)
 ·obtain rfl:c=224:=by omega
  refine .inr (.inr (.inl ⟨.inl rfl,?_⟩));rw[if_neg (by omega),if_pos (by omega)];rfl
 ·refine .inr (.inr (.inl ⟨.inr (.inl rfl),?_⟩))
  rw[if_neg (by omega),if_pos (by omega)]
  simp only[if_neg (show ¬c=224 by omega),if_neg (show ¬c=237 by omega)];rfl
 ·obtain rfl:c=237:=by omega
  refine .inr (.inr (.inl ⟨.inr (.inr rfl),?_⟩));rw[if_neg (by omega),if_pos (by omega)];rfl
 ·obtain rfl:c=240:=by omega
  refine .inr (.inr (.inr ⟨.inl rfl,?_⟩));rw[if_neg (by omega),if_neg (by omega),if_pos (by omega)];rfl
 ·refine .inr (.inr (.inr ⟨.inr (.inl rfl),?_⟩))
  rw[if_neg (by omega),if_neg (by omega),if_pos (by omega)]
  simp only[if_neg (show ¬c=240 by omega),if_neg (show ¬c=244 by omega)];rfl
 ·obtain rfl:c=244:=by omega
  refine .inr (.inr (.inr ⟨.inr (.inr rfl),?_⟩));rw[if_neg (by omega),if_neg (by omega),if_pos (by omega)];rfl
theorem ZGH:IntKind.i64.wrap (Zt .and .u8 241 7)=1:=by decide
theorem a2:IntKind.i64.wrap (Zt .and .u8 2 7)=2:=by decide
theorem a19:IntKind.i64.wrap (Zt .and .u8 19 7)=3:=by decide
theorem a3:IntKind.i64.wrap (Zt .and .u8 3 7)=3:=by decide
theorem a35:IntKind.i64.wrap (Zt .and .u8 35 7)=3:=by decide
theorem a52:IntKind.i64.wrap (Zt .and .u8 52 7)=4:=by decide
theorem a4:IntKind.i64.wrap (Zt .and .u8 4 7)=4:=by decide
theorem a68:IntKind.i64.wrap (Zt .and .u8 68 7)=4:=by decide
theorem ZFi:Int.fdiv 241 (2^min 4 IntKind.u8.bits)=15:=by decide
theorem s2:Int.fdiv 2 (2^min 4 IntKind.u8.bits)=0:=by decide
theorem s3:Int.fdiv 3 (2^min 4 IntKind.u8.bits)=0:=by decide
theorem s4:Int.fdiv 4 (2^min 4 IntKind.u8.bits)=0:=by decide
theorem t15:List.take 2 (List.drop 30 (List.map (V.int .u8) Z5))=[.int .u8 0,.int .u8 0]:=rfl
theorem t0:List.take 2 (List.drop 0 (List.map (V.int .u8) Z5))=[.int .u8 128,.int .u8 191]:=rfl
theorem t1:List.take 2 (List.drop 2 (List.map (V.int .u8) Z5))=[.int .u8 160,.int .u8 191]:=rfl
theorem t2:List.take 2 (List.drop 4 (List.map (V.int .u8) Z5))=[.int .u8 128,.int .u8 159]:=rfl
theorem t3:List.take 2 (List.drop 6 (List.map (V.int .u8) Z5))=[.int .u8 144,.int .u8 191]:=rfl
theorem t4:List.take 2 (List.drop 8 (List.map (V.int .u8) Z5))=[.int .u8 128,.int .u8 143]:=rfl
theorem t00:List.take 2 (List.map (V.int .u8) Z5)=[.int .u8 128,.int .u8 191]:=rfl
end Go.Proofs.YtimhmpdfioihlaaGreatDoor
namespace Go.Abs
set_option maxRecDepth 20000
open Go Go.RowKit
section
section
variable {P:Program}{st:St}{Q:Exit->St->Prop}{ops:Array Oper}{rest:List Oper}{o:Oper}
theorem AWL.tassert1 {xt t:TypeId}{x:Operand}{d:Nat}{k:IntKind}{n:Int}(hg:o.guard=none)(ho:o.op= .typeAssert x xt t true)(hd:o.dst=some d)(hdn:Nat.ble (d+1) st.n=true)(hx:st.ev x= .con (.iface t (.agg #[.int k n])))(hi:Zjb P t=false)
 (k':AWL P ops rest Q (st.put d (.tup [.agg [.int k n],.bool true]))):AWL P ops (o::rest) Q st:=AWL.tassert (l:=[.int k n]) hg ho hd hdn hx rfl hi k'
theorem AW.keepPost {c:Code}(is ks:List Nat)(h:AW P c (fun e s=>Q e (s.keep is ks)) st):AW P c Q st:=fun C a w hs=>
 wp_mono (h C a w hs) fun _ _ _ ⟨s,hq,S,β,hs⟩=>⟨_,hq,S,β,hs.keep is ks⟩
end
end
end Go.Abs
namespace Go.Proofs.YtimhmpdfioihlaaGreatDoor
set_option maxRecDepth 20000
open Go Go.Abs
open Go.Lib in
theorem ZCY {w:World}(h3:VarReads Tryz.prog w "unicode/utf8.first" firstData)(h4:VarReads Tryz.prog w "unicode/utf8.acceptRanges" acceptData):Lib.Utf8Tabs 0 1 w:=by
 have n3:Tryz.prog.globalNamed "unicode/utf8.first" = some 0:=by kernel_rfl
 have n4:Tryz.prog.globalNamed "unicode/utf8.acceptRanges" = some 1:=by kernel_rfl
 have y3:(Tryz.prog.globals[0]?).map (·.type)=some 150:=by kernel_rfl
 have y4:(Tryz.prog.globals[1]?).map (·.type)=some 153:=by kernel_rfl
 have c5:Tryz.prog.cellsOf 5=1:=by kernel_rfl
 have c1:Tryz.prog.cellsOf 150=256:=by kernel_rfl
 have c2:Tryz.prog.cellsOf 152=2:=by kernel_rfl
 refine⟨fun c hc=> ?_,fun i hi=> ?_⟩
 ·obtain⟨g,t,cs,fuel,p,hg,hty,hvar,hd⟩:=h3
  obtain rfl:=Option.some.inj (n3.symm.trans hg)
  obtain rfl:=Option.some.inj (y3.symm.trans hty)
  have hcs:=cells_of_tab Tryz.underlying150 Tryz.underlying5 c5 c1 hd
  have:=World.var?_cell hg hvar c
  rw[this,<- Array.getElem?_toList,hcs]
  simp[firstTab,hc]
 ·obtain⟨g,t,cs,fuel,p,hg,hty,hvar,hd⟩:=h4
  obtain rfl:=Option.some.inj (n4.symm.trans hg)
  obtain rfl:=Option.some.inj (y4.symm.trans hty)
  obtain⟨fuel',d,q,hdi,he⟩:=array_elem Tryz.underlying153 hd i hi
  simp only[Yas,List.getElem?_range hi,Option.map_some,Yac]at hdi
  subst hdi
  rw[c2]at he
  have hcs:=ints_of_struct Tryz.underlying152 (fun j f hj=>by
   match j,hj with
   |0,hj=>simp at hj;subst hj;exact⟨Tryz.underlying5,rfl,c5⟩
   |1,hj=>simp at hj;subst hj;exact⟨Tryz.underlying5,rfl,c5⟩
   |j+2,hj=>simp at hj) (by rw[c2];rfl) he
  have e0:=congrArg (·[0]?) hcs
  have e1:=congrArg (·[1]?) hcs
  simp only[List.getElem?_take,Ya2]at e0 e1
  constructor
  ·rw[World.var?_cell hg hvar (2*i),<- Array.getElem?_toList]
   simpa[Nat.mul_comm]using e0
  ·rw[World.var?_cell hg hvar (2*i+1),<- Array.getElem?_toList]
   simpa[Nat.mul_comm]using e1
theorem ZrB:Rows.laid_unicode_utf8_first=Lib.firstData:=by kernel_rfl
theorem ZoJ:(Rows.laid_unicode_utf8_acceptRanges:DataW Unit)=Lib.acceptData:=by kernel_rfl
theorem ZuW: ∀j:Fin 256,Zca[j.val]? = some ((Lib.firstT j.val:Nat):Int):=by decide +kernel
theorem ZrC: ∀j:Fin 16,Z5[2*j.val]? = some ((Lib.accLo j.val:Nat):Int)/\Z5[2*j.val+1]? = some ((Lib.accHi j.val:Nat):Int):=by decide +kernel
theorem ZuX {W:World}{b o:Nat}{v:Value}(h:W.cell? ⟨b,o,none⟩=some v):b<W.heap.size:=by
 apply Classical.byContradiction
 intro hn
 simp[World.cell?,Array.getElem?_eq_none (Nat.le_of_not_lt hn)]at h
theorem ZFj {laid:List (String×DataW Unit)}{W:World}(hL:laidMet Tryz.prog laid W)(h3:("unicode/utf8.first", Rows.laid_unicode_utf8_first)∈laid)(h4:("unicode/utf8.acceptRanges", Rows.laid_unicode_utf8_acceptRanges)∈laid):GT (fun b=>b<W.heap.size) W:=by
 rw[ZrB]at h3
 rw[ZoJ]at h4
 obtain⟨t1,t2⟩:=ZCY (Lib.laidMet.reads hL h3) (Lib.laidMet.reads hL h4)
 intro g cs hg
 unfold ZEx at hg
 simp only[lk]at hg
 by_cases h0:g=0
 ·subst h0
  have hg:some Zca=some cs:=hg
  cases hg
  refine⟨ZuX (t1 0 (by decide)),fun j v hj=> ?_⟩
  have hlt:j<256:=by
   have:=(Yak.1 hj).1
   exact this
  have e:=ZuW ⟨j,hlt⟩
  simp only at e
  rw[hj]at e
  cases e
  exact t1 j hlt
 ·by_cases h1:g=1
  ·subst h1
   have hg:some Z5=some cs:=hg
   cases hg
   refine⟨ZuX (t2 0 (by decide)).1,fun j v hj=> ?_⟩
   have hlt:j<32:=(Yak.1 hj).1
   obtain⟨e1,e2⟩:=ZrC ⟨j/2,by omega⟩
   obtain⟨q1,q2⟩:=t2 (j/2) (by omega)
   simp only at e1 e2
   by_cases hp:j%2=0
   ·rw[show 2*(j/2)=j by omega]at e1 q1
    rw[hj]at e1
    cases e1
    exact q1
   ·rw[show 2*(j/2)+1=j by omega]at e2 q2
    rw[hj]at e2
    cases e2
    exact q2
  ·rw[show(0==g)=false by simpa using fun h=>h0 h.symm,show(1==g)=false by simpa using fun h=>h1 h.symm]at hg
   simp at hg
end Go.Proofs.YtimhmpdfioihlaaGreatDoor
namespace Go.Abs
set_option maxRecDepth 20000
open Go Go.RowKit
section
section
variable {P:Program}{C:Ctx}{st st':St}{a:Act}{w:World}{l:List Oper}{o:Oper}{Q:Exit->St->Prop}{L:Array Bool}{n:Nat}
theorem AT.takeC (i:Nat){L':Array Bool}{d:Nat}{k k':IntKind}{m:Int}{src dst:TypeId}{x:Operand}(ho:l[i]? = some o)(hg:o.guard=none)(hd:o.dst=some d)(hop:o.op= .convert src dst x)(hx:st.ev x= .int k m)(hk:ZhW P dst=some k')(hsr:(P.underlying src).isSome=true)(hdn:Nat.ble (d+1) st.n=true)(hpan:ZcQ Q)
 (hchk:(Region.noSelect l.toArray&&Region.free .any l.toArray L i&&(Region.ready .any l.toArray L).contains i)=true) (hL:L.setIfInBounds i true=L') (h:AT P l Q L' n (st.put d (.int k' (k'.wrap m)))):AT P l Q L (n+1) st:=fun C a w ls hl ⟨S,β,hs⟩=>by
 subst hL
 simp only[Yao]at hchk
 have h0:=Zag hs x
 rw[hx]at h0
 have hu:=VR.int_inv h0
 obtain⟨u,hu2⟩:=Yax.1 hsr
 refine wpAny_take (v:= .int k' (k'.wrap m)) (by simpa using ho) hchk.1.1 hchk.1.2 hchk.2 ?_ (.inl ⟨by simp[Region.wanted,hg],fun w=> ?_⟩) ?_
 ·rw[hd];exact Zyq hpan
 ·unfold execOp;simp[hop,hu,convert,run_underlying hu2,run_underlying (Zbl hk),Conv.intToInt]
 ·rw[hd]
  exact h C _ w _ (hl.step (by simpa using hchk.2)) ⟨S,β,hs.put (Yaa hdn) .int⟩
end
end
end Go.Abs
namespace Go.Proofs.YtimhmpdfioihlaaGreatDoor
set_option maxRecDepth 20000
open Go Go.Abs
theorem Zys {k:IntKind}{xs:List Int}{n:Nat}(h:n<xs.length):(Zi k xs).getD n .any= .int k (xs.getD n 0):=by
 simp[Zi,Yah,h]
end Go.Proofs.YtimhmpdfioihlaaGreatDoor
