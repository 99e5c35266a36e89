/- fields: sixteen bytes. -/
import Derived.Test.YtimhmpdfioihlaaGreatDoorDP
import Derived.Test.YtimhmpdfioihlaaGreatDoorGPreV
import Derived.Test.YtimhmpdfioihlaaGreatDoorGV6
import Derived.Test.YtimhmpdfioihlaaGreatDoorGCB
import Derived.Test.YtimhmpdfioihlaaGreatDoorGXSt
import Derived.Test.YtimhmpdfioihlaaGreatDoorGWP
import Derived.Test.YtimhmpdfioihlaaGreatDoorGRWP
import Derived.Test.YtimhmpdfioihlaaGreatDoorGEN6
import Derived.Test.YtimhmpdfioihlaaGreatDoorMT6wc
import Derived.Test.YtimhmpdfioihlaaGreatDoorMT6wd
import Derived.Test.YtimhmpdfioihlaaGreatDoorGMT5
import Derived.Test.YtimhmpdfioihlaaGreatDoorOf
import Derived.Test.YtimhmpdfioihlaaGreatDoorROf
set_option linter.unusedSimpArgs false
set_option linter.unusedVariables false
set_option maxHeartbeats 12800000
namespace Go.Proofs.YtimhmpdfioihlaaGreatDoor
set_option maxRecDepth 20000
open Go Go.Abs Nat
attribute [local irreducible] AW AWL AC FW CW CWr IntKind.wrap
section
def zs (n:Nat):List Int:=List.replicate n 0
theorem ZBm (v:List Int)(k:Nat)(hv:v.length=k)(hk:k<16)(x:Int):ZnO (v++zs (16-k)) k x=(v++[x])++zs (16-(k+1)):=by
 subst hv
 unfold ZnO zs
 rw[List.take_left,show 16-v.length=16-(v.length+1)+1 by omega,List.replicate_succ,List.drop_append,Ya7 (by omega),show v.length+1-v.length=1 by omega]
 simp
theorem ZqG (b:List Int): ∀(n:Nat) (r:Rd),(Zgp b n r).1.length=n
 |0,_=>rfl
 |n+1,r=>by rw[Zgp];simp[ZqG b n]
theorem ZkA {b:List Int}(hb:bytes b): ∀(n:Nat) (r:Rd),ZcB b r->bytes (Zgp b n r).1/\ZcB b (Zgp b n r).2
 |0,r,h=>⟨fun x hx=>(by cases hx),h⟩
 |n+1,r,h=>by
  have ih:=ZkA hb n (Zal b r).2 (Zix h)
  rw[Zgp]
  refine⟨fun x hx=> ?_,ih.2⟩
  rcases Yav.1 hx with rfl|hx
  ·exact ZfI hb h
  ·exact ih.1 x hx
theorem ZDu.NM:type_of% @MB.NM/\type_of% @Zdn/\type_of% @TR.eq_1:=
 ⟨MB.NM,@Zdn,@TR.eq_1⟩
open ZDu
theorem Zvz.cl {p:Prop}(h:p:=by
 first
  |refine AWL.cM (f:=153) [(0,0),(1002,1002)] Zw3 rfl rfl rfl rfl rfl rfl rfl (hby) ?_
  |refine AWL.frzG rfl rfl rfl ?_
  |refine AWL.cC (f:=172) ZCw rfl rfl rfl rfl rfl rfl (hsp) ?_
 all_goals(apply_rules (newGoals:= .nonDependentOnly) only[dep];exact())):p:=h
theorem Zvz.att {p:Prop}(h:p:=by
 first
  |(first|(refine AT.takeM (L:=(bA 12 0)) (L':=(bA 12 1)) 0 rfl rfl rfl rfl rfl Zbt (by decide +kernel) (by decide +kernel) ?_;(try refine' Zf))|(refine AT.takeM (L:=(bA 12 1)) (L':=(bA 12 3)) 1 rfl rfl rfl rfl rfl Zbt (by decide +kernel) (by decide +kernel) ?_;(try refine' Zf))|(refine AT.takeF (L:=(bA 12 3)) (L':=(bA 12 7)) 2 rfl rfl rfl rfl rfl rfl rfl rfl Zbt (by decide +kernel) (by decide +kernel) ?_;(try refine' Zf))|(refine AT.takeF (L:=(bA 12 7)) (L':=(bA 12 23)) 4 rfl rfl rfl rfl rfl rfl rfl rfl Zbt (by decide +kernel) (by decide +kernel) ?_;(try refine' Zf))|refine AT.step (L:=(bA 12 23)) [3,5] (by decide +kernel) (by decide) (Z8 ⟨_,(bA 12 31),rfl,(by decide +kernel),?_⟩ ⟨_,(bA 12 55),rfl,(by decide +kernel),?_⟩)|refine AT.step (L:=(bA 12 55)) [3] (by decide +kernel) (by decide) (Zr ⟨_,(bA 12 63),rfl,(by decide +kernel),?_⟩)|(refine AT.takeN (L:=(bA 12 63)) (L':=(bA 12 127)) 6 rfl rfl rfl rfl rfl rfl Zbt (by decide +kernel) (by decide +kernel) ?_;(try refine' Zf))|(refine AT.takeF (L:=(bA 12 127)) (L':=(bA 12 255)) 7 rfl rfl rfl rfl rfl rfl rfl rfl Zbt (by decide +kernel) (by decide +kernel) ?_;(try refine' Zf))|refine AT.step (L:=(bA 12 255)) [8] (by decide +kernel) (by decide) (Zr ⟨_,(bA 12 511),rfl,(by decide +kernel),?_⟩)|(refine AT.takeN (L:=(bA 12 511)) (L':=(bA 12 1023)) 9 rfl rfl rfl rfl rfl rfl Zbt (by decide +kernel) (by decide +kernel) ?_;(try refine' Zf))|(refine AT.takeF (L:=(bA 12 1023)) (L':=(bA 12 2047)) 10 rfl rfl rfl rfl rfl rfl rfl rfl Zbt (by decide +kernel) (by decide +kernel) ?_;(try refine' Zf))|refine AT.step (L:=(bA 12 2047)) [11] (by decide +kernel) (by decide) (Zr ⟨_,(bA 12 4095),rfl,(by decide +kernel),?_⟩)|refine AT.done (L:=(bA 12 4095)) (by decide +kernel) ?_|(refine AT.takeN (L:=(bA 12 31)) (L':=(bA 12 95)) 6 rfl rfl rfl rfl rfl rfl Zbt (by decide +kernel) (by decide +kernel) ?_;(try refine' Zf))|(refine AT.takeF (L:=(bA 12 95)) (L':=(bA 12 223)) 7 rfl rfl rfl rfl rfl rfl rfl rfl Zbt (by decide +kernel) (by decide +kernel) ?_;(try refine' Zf))|refine AT.step (L:=(bA 12 223)) [5,8] (by decide +kernel) (by decide) (Z8 ⟨_,(bA 12 255),rfl,(by decide +kernel),?_⟩ ⟨_,(bA 12 479),rfl,(by decide +kernel),?_⟩)|refine AT.step (L:=(bA 12 479)) [5] (by decide +kernel) (by decide) (Zr ⟨_,(bA 12 511),rfl,(by decide +kernel),?_⟩))
 all_goals(apply_rules (newGoals:= .nonDependentOnly) only[dep];exact())):p:=h
open Zvz ZoD Zm in
theorem ZlA (b:List Int)(hb:bytes b)(hlen:b.length<=1000000000)(r:Rd)(hr:ZcB b r)(form:Int)(hf:form=11\/form=12)(i:Ins) :
 AM Tryz.prog 157 [.ptr 0 0,.ptr 1 0,.int .i64 form] (rdM 0 1002 b r++inM 1 2005 i) [0,1] (fun v m=>v= .tup []/\m=rdM 0 1002 b (Zv b form r i).2++inM 1 2005 (Zv b form r i).1):=by
 obtain⟨io,ia,ib,il,ih,ill⟩:=i
 obtain⟨A,hA⟩: ∃A,Zv b form r ⟨io,ia,ib,il,ih,ill⟩=A:=⟨_,rfl⟩
 rw[hA]
 unfold Zv at hA
 rw[if_neg (by omega),if_neg (by omega),if_neg (by omega),if_neg (by omega),if_neg (by omega),if_neg (by omega),if_neg (by omega),if_pos hf]at hA
 have hwl:=ZqG b 16 r
 have hwb:=(ZkA hb 16 r hr).1
 obtain⟨w,rr,hw⟩: ∃w rr,Zgp b 16 r=(w,rr):=⟨_,_,rfl⟩
 rw[hw]at hA hwl hwb
 simp only at hA hwl hwb
 subst hA
 have hsp:=Zyu w hwl hwb
 rcases hf with rfl|rfl
 all_goals
  unfold rdM inM at *
  refine AM.enter Tryz.func157 rfl (Yaa rfl) (fun pn=> ?_)
  simp only[Tryz.f157]
  have nx:=trivial
  refine' ZfA
  refine AW.loop [0,1,7,99] [0,1002,1,2005,7] (fun m st=> ∃(k:Nat) (r':Rd) (v:List Int),st=TR pn b r' io ia ib il ih ill (v++zs (16-k)) k/\ZcB b r'/\v.length=k/\k<=16/\(w,rr)=(v++(Zgp b (16-k) r').1,(Zgp b (16-k) r').2)/\m=16-k) ?_ ?_
  ·exact⟨_,0,r,[],rfl,hr,rfl,Nat.zero_le _,hw.symm,rfl⟩
  rintro m st ⟨k,r',v,rfl,hr',hvl,hk,hv,rfl⟩
  by_cases hk16:k<16
  ·have e5:IntKind.i64.wrap ((k:Int)+1)=((k+1:Nat):Int):=Zc _ (by omega) (by omega)
   have hby:=Zfn b hb hlen r' hr'
   have hx:=ZfI hb hr'
   have hr2:=Zix hr'
   rw[show 16-k=16-(k+1)+1 by omega,Zgp]at hv
   unfold rdM at hby
   obtain⟨x,r2,e⟩: ∃x r2,Zal b r'=(x,r2):=⟨_,_,rfl⟩
   rw[e]at hby hx hr2 hv
   simp only at hx hr2 hv
   have hset:=ZBm v k hvl hk16 x
   have ex:IntKind.u8.wrap x=x:=Zb0 rfl hx.1 (by have:=hx.2;show _<(256:Int);omega)
   have hzl:(v++zs (16-k)).length=16:=by rw[Yal,hvl];unfold zs;rw[List.length_replicate];omega
   have nx:=aI @e5 (aI @ex (aI @hset (aI @hzl trivial)))
   refine' ZfA
   all_goals first
    |exact⟨16-(k+1),by omega,k+1,r2,v++[x],rfl,hr2,by simp[hvl],by omega,by rw[hv];simp,rfl⟩
  ·obtain rfl:k=16:=by omega
   have hv2:w=v/\rr=r':=by
    simp only[Nat.sub_self,Zgp,List.append_nil,Yai]at hv;exact hv
   obtain⟨rfl,rfl⟩:=hv2
   have hz0:w++zs (16-16)=w:=List.append_nil w
   rw[hz0]
   have nx:=trivial
   refine' ZxK
   refine AW.drawT (L0:=(bA 12 0)) (by decide +kernel) Zjo ?_
   have nx:=trivial
   refine' Zld
   all_goals
    (repeat (first|refine QEq.mp (by assumption) ?_|simp only[Zbd,Go.Abs.blockQ,↓reduceIte,Nat.reduceEqDiff]))
    have nx:=trivial
    refine' ZfA
    all_goals first|exact⟨trivial,trivial⟩|exact⟨rfl,trivial⟩|exact⟨rfl,rfl⟩|exact⟨trivial,rfl⟩|(exfalso;omega)|trace_state
end
end Go.Proofs.YtimhmpdfioihlaaGreatDoor
namespace Go.Proofs.YtimhmpdfioihlaaGreatDoor
set_option maxRecDepth 20000
open Go Go.Abs
theorem ZvA {code:List Ins}(hi: ∀i∈code,ZbM i):bytes (Zw code).1:=by
 unfold Zw
 split
 ·rename_i h;exact ZrP hi h.2
 ·intro x hx;cases hx
theorem ZDv {code:List Ins}(hi: ∀i∈code,ZbM i):(Zw code).1.length<=10*szC code:=by
 unfold Zw
 split
 ·exact ZoT hi
 ·exact Nat.zero_le _
theorem ZBn {l:List Int}(h:bytes l):Zi .u8 l=((Zi .u8 l).map Abs.byteOf).map Zgg:=by
 induction l with
 |nil=>rfl
 |cons x l ih=>
  have hx:=h x (List.mem_cons_self ..)
  have:=ih (fun y hy=>h y (Yaq _ hy))
  simp only[Zi,List.map_cons]at this ⊢
  rw[<- this]
  congr 1
  unfold byte at hx
  have e:(UInt8.ofNat x.toNat).toNat=x.toNat:=by
    rw[UInt8.toNat_ofNat'];exact Nat.mod_eq_of_lt (by omega)
  simp only[Abs.byteOf,Zgg,e,Int.toNat_of_nonneg hx.1]
end Go.Proofs.YtimhmpdfioihlaaGreatDoor
namespace Go.Proofs.YtimhmpdfioihlaaGreatDoor
set_option maxRecDepth 20000
open Go Go.Abs Nat
attribute [local irreducible] AW AWL AC FW CW CWr IntKind.wrap
section
def ZoW (most:Int)(l:Int×Int)(o:Ow):Ow:=if l.2= -1 then Z9 [l.1] (Z6 [0] (Zy (decide (l.1<=most)) o))else Z9 [l.1,l.2] (Z6 [1] (Zy (decide (l.1<=most)) o))
theorem ZHM.NM:type_of% @MB.NM/\type_of% @owM.eq_1:=
 ⟨MB.NM,@owM.eq_1⟩
open ZHM
open ZuD ZuE Zm in
theorem ZvB (o:Ow)(l:Int×Int)(most:Int)(hl:o.b.length+30<=1000000000):AM Tryz.prog 30 [.ptr 0 0,.agg [.int .i64 l.1,.int .i64 l.2],.int .i64 most] (owM 0 1000 o) [0] (fun r m=>r= .tup []/\m=owM 0 1000 (ZoW most l o)):=by
 obtain⟨Y,hY⟩: ∃Y,ZoW most l o=Y:=⟨_,rfl⟩
 rw[hY]
 unfold ZoW at hY
 obtain⟨lo,hi⟩:=l
 simp only at hY ⊢
 obtain⟨c,hc⟩: ∃c,decide (lo<=most)=c:=⟨_,rfl⟩
 rw[hc]at hY
 have hmust:=Zat o c
 have hlm:(Zy c o).b.length=o.b.length:=rfl
 generalize Zy c o=o1 at hY hmust hlm
 by_cases hh:hi= -1
 ·rw[if_pos hh]at hY
  have d1:(hi== -1)=true:=beq_iff_eq.2 hh
  have hb0:=Zbq o1 [0] (by rw[hlm];simp only[List.length_singleton];omega)
  have hlb:(Z6 [0] o1).b.length=o1.b.length+1:=by show(o1.b++[0]).length=_;rw[Yal];rfl
  generalize Z6 [0] o1=o2 at hY hb0 hlb
  have hn0:=Zai o2 [lo] (by simp only[List.length_singleton];omega)
  rw[hY]at hn0
  obtain⟨b,bad⟩:=o
  obtain⟨b1,bad1⟩:=o1
  obtain⟨b2,bad2⟩:=o2
  obtain⟨bY,badY⟩:=Y
  unfold owM at hmust hb0 hn0
  unfold owM
  simp only at hmust hb0 hn0
  refine AM.enter Tryz.func30 rfl (Yaa rfl) (fun pn=> ?_)
  simp only[Tryz.f30]
  clear hY hlm hlb hl
  have nx:=aI @hc (aI @d1 trivial)
  refine' Zcf
  all_goals first|exact⟨trivial,trivial⟩|exact⟨rfl,trivial⟩|exact⟨rfl,rfl⟩|exact⟨trivial,rfl⟩|(exfalso;omega)|trace_state
 ·rw[if_neg hh]at hY
  have d1:(hi== -1)=false:=Yam.2 hh
  have hb0:=Zbq o1 [1] (by rw[hlm];simp only[List.length_singleton];omega)
  have hlb:(Z6 [1] o1).b.length=o1.b.length+1:=by show(o1.b++[1]).length=_;rw[Yal];rfl
  generalize Z6 [1] o1=o2 at hY hb0 hlb
  have hn0:=Zai o2 [lo,hi] (by simp only[Yag,List.length_nil];omega)
  rw[hY]at hn0
  obtain⟨b,bad⟩:=o
  obtain⟨b1,bad1⟩:=o1
  obtain⟨b2,bad2⟩:=o2
  obtain⟨bY,badY⟩:=Y
  unfold owM at hmust hb0 hn0
  unfold owM
  simp only at hmust hb0 hn0
  refine AM.enter Tryz.func30 rfl (Yaa rfl) (fun pn=> ?_)
  simp only[Tryz.f30]
  clear hY hlm hlb hl
  have nx:=aI @hc (aI @d1 trivial)
  refine' Zcf
  all_goals first|exact⟨trivial,trivial⟩|exact⟨rfl,trivial⟩|exact⟨rfl,rfl⟩|exact⟨trivial,rfl⟩|(exfalso;omega)|trace_state
end
section
def Zf1 (id:Int)(p o:Ow):Ow:=Z6 p.b (Z9 [(p.b.length:Int)] (Z6 [id] (Zy (!p.bad) o)))
theorem ZHN.NM:type_of% @MB.NM/\type_of% @owM.eq_1:=
 ⟨MB.NM,@owM.eq_1⟩
open ZHN
open Zuv ZuE ZuF Zm in
theorem ZdW (o p:Ow)(id:Int)(hl:o.b.length+p.b.length+11<=1000000000):AM Tryz.prog 36 [.ptr 0 0,.int .u8 id,.ptr 2 0] (owM 0 1000 o++owM 2 3000 p) [0,2] (fun r m=>r= .tup []/\m=owM 0 1000 (Zf1 id p o)++owM 2 3000 p):=by
 obtain⟨Y,hY⟩: ∃Y,Zf1 id p o=Y:=⟨_,rfl⟩
 rw[hY]
 unfold Zf1 at hY
 obtain⟨pb,pbad⟩:=p
 simp only at hY hl
 have hmust:=Zat o (!pbad)
 have hlm:(Zy (!pbad) o).b.length=o.b.length:=rfl
 generalize Zy (!pbad) o=o1 at hY hmust hlm
 have hb0:=Zbq o1 [id] (by rw[hlm];simp only[List.length_singleton];omega)
 have hlb:(Z6 [id] o1).b.length=o1.b.length+1:=by show(o1.b++[id]).length=_;rw[Yal];rfl
 generalize Z6 [id] o1=o2 at hY hb0 hlb
 have hn0:=Zai o2 [(pb.length:Int)] (by simp only[List.length_singleton];omega)
 have hl3:=Zq [(pb.length:Int)] o2
 simp only[List.length_singleton]at hl3
 generalize Z9 [(pb.length:Int)] o2=o3 at hY hn0 hl3
 have hb3:o3.b.length+pb.length<=1000000000:=by omega
 obtain⟨b,bad⟩:=o
 obtain⟨b1,bad1⟩:=o1
 obtain⟨b2,bad2⟩:=o2
 obtain⟨b3,bad3⟩:=o3
 have hcut:List.take b3.length (Zi .u8 b3)=Zi .u8 b3:=Yad (by rw[Zb];exact Nat.le_refl _)
 have hcup:List.take pb.length (Zi .u8 pb)=Zi .u8 pb:=Yad (by rw[Zb];exact Nat.le_refl _)
 have hap:Zi .u8 b3++Zi .u8 pb=Zi .u8 (b3++pb):=by simp only[Zi,List.map_append]
 have hle:(b3++pb).length=b3.length+pb.length:=Yal
 rw[<- hY]
 unfold owM at hmust hb0 hn0
 unfold owM Z6
 simp only[hle,List.cons_append,List.nil_append]at hmust hb0 hn0 hb3 ⊢
 refine AM.enter Tryz.func36 rfl (Yaa rfl) (fun pn=> ?_)
 simp only[Tryz.f36]
 clear hY hlm hlb hl hl3
 have nx:=trivial
 refine' Zxy
 refine AW.drawT (L0:=(bA 13 0)) (by decide +kernel) Zjo ?_
 have nx:=aI @hcut (aI @hcup (aI @hap trivial))
 refine' ZxP
 all_goals
  (repeat (first|refine QEq.mp (by assumption) ?_|simp only[Zbd,Go.Abs.blockQ,↓reduceIte,Nat.reduceEqDiff]))
  have nx:=trivial
  refine' Zx7
  all_goals first|exact⟨trivial,trivial⟩|exact⟨rfl,trivial⟩|exact⟨rfl,rfl⟩|exact⟨trivial,rfl⟩|(exfalso;omega)|trace_state
end
section
def ZoX (n:Int)(o:Ow):Ow:=Z9 [n] o
theorem ZFL.NM:type_of% @MB.NM/\type_of% @owM.eq_1:=
 ⟨MB.NM,@owM.eq_1⟩
open ZFL
theorem ZDw.cl {p:Prop}(h:p:=by
 first
  |refine AWL.cM (f:=21) [(0,0),(1000,1000)] Zp8 rfl rfl rfl rfl rfl rfl rfl (h1) ?_
  |refine AWL.frzG rfl rfl rfl ?_
 all_goals(apply_rules (newGoals:= .nonDependentOnly) only[dep];exact())):p:=h
open ZDw Zgn Zm in
theorem ZvC (o:Ow)(n:Int)(hl:o.b.length+10<=1000000000):AM Tryz.prog 27 [.ptr 0 0,.int .i64 n] (owM 0 1000 o) [0] (fun r m=>r= .tup []/\m=owM 0 1000 (ZoX n o)):=by
 obtain⟨Y,hY⟩: ∃Y,ZoX n o=Y:=⟨_,rfl⟩
 rw[hY]
 unfold ZoX at hY
 have h1:=Zai o [n] (by(try simp only[List.length_singleton,Yag,List.length_nil]);omega)
 have l1:=Zq [n] o
 (try simp only[List.length_singleton,Yag,List.length_nil]at l1)
 rw[hY]at h1
 obtain⟨b,bad⟩:=o
 obtain⟨bY,badY⟩:=Y
 unfold owM at h1 ⊢
 simp only at h1 ⊢
 refine AM.enter Tryz.func27 rfl (Yaa rfl) (fun pn=> ?_)
 simp only[Tryz.f27]
 clear hY hl l1
 have nx:=trivial
 refine' Zcf
 all_goals first|exact⟨trivial,trivial⟩|exact⟨rfl,trivial⟩|exact⟨rfl,rfl⟩|exact⟨trivial,rfl⟩|(exfalso;omega)|trace_state
theorem ZqH (n:Int)(o:Ow):(ZoX n o).b.length<=o.b.length+10:=by
 unfold ZoX
 have l1:=Zq [n] o
 (try simp only[List.length_singleton,Yag,List.length_nil]at l1)
 omega
end
end Go.Proofs.YtimhmpdfioihlaaGreatDoor
namespace Go.Proofs.YtimhmpdfioihlaaGreatDoor
set_option maxRecDepth 20000
open Go Go.Abs
def ZbA {α:Type}(f:α->Ow->Ow):List α->Ow->Ow
 |[],p=>p
 |x::l,p=>ZbA f l (f x p)
def Zbk {α:Type}(f:α->Ow->Ow)(id most:Int)(l:List α)(o:Ow):Ow:=
 if l.length=0 then Zy (decide ((l.length:Int)<=most)) o
 else Zf1 id (ZbA f l (Z9 [(l.length:Int)] ⟨[],(Zy (decide ((l.length:Int)<=most)) o).bad⟩)) (Zy (decide ((l.length:Int)<=most)) o)
def Zaa {α:Type}(sz:α->Nat):List α->Nat
 |[]=>0
 |x::l=>sz x+Zaa sz l
theorem Zco {α:Type}{f:α->Ow->Ow}{sz:α->Nat}(h: ∀x p,(f x p).b.length<=p.b.length+sz x): ∀(l:List α) (p:Ow),(ZbA f l p).b.length<=p.b.length+Zaa sz l
 |[],p=>Nat.le_refl _
 |x::l,p=>by
  have h1:=Zco h l (f x p)
  have h2:=h x p
  simp only[ZbA,Zaa]
  omega
theorem Zb7 {α:Type}(d:α){l:List α}{k:Nat}(h:k<l.length):l.drop k=l.getD k d::l.drop (k+1):=by
 rw[List.drop_eq_getElem_cons h,Yah,Yab h];rfl
theorem ZaE (c:Bool)(o:Ow):(Zy c o).b.length=o.b.length:=rfl
theorem Z7 (l:List Int)(o:Ow):(Z6 l o).b.length=o.b.length+l.length:=Yal
theorem ZcV (c:List Ins)(o:Ow):(ZeQ c o).b.length=o.b.length+(Zw c).1.length:=Z7 _ _
theorem ZiA (most:Int)(l:Int×Int)(o:Ow):(ZoW most l o).b.length<=o.b.length+21:=by
 unfold ZoW
 split
 ·refine Nat.le_trans (Zq _ _) ?_
  rw[Z7];simp only[ZaE,Yag,List.length_nil];omega
 ·refine Nat.le_trans (Zq _ _) ?_
  rw[Z7];simp only[ZaE,Yag,List.length_nil];omega
end Go.Proofs.YtimhmpdfioihlaaGreatDoor
namespace Go.Proofs.YtimhmpdfioihlaaGreatDoor
set_option maxRecDepth 20000
open Go Go.Abs Nat
attribute [local irreducible] AW AWL AC FW CW CWr IntKind.wrap
section
def Ns (pn:Nat->Option BI)(o p:Ow)(id:Int)(f1:FuncId)(l:List Int)(k:Nat):St:={ n:=48,slots:=[(0,.ptr 0 0),(1,.int .u8 id),(4,.fn f1 []),(10,.ptr 27 0),(33,.view l.length 1 (Zi .i64 l)),(34,.int .i64 (l.length:Int)),(35,.int .i64 (k:Int))],mem:=owM 0 1000 o++owM 27 28000 p,lent:=[(0,pn 0),(1000,none)] }
theorem ZHO.NM:type_of% @NSX/\type_of% @St.keepS.eq_1/\type_of% @TY/\type_of% @ZjT/\type_of% @Zb/\type_of% @owM.eq_1/\type_of% @Ns.eq_1:=
 ⟨NSX,St.keepS.eq_1,@TY,@ZjT,@Zb,@owM.eq_1,@Ns.eq_1⟩
open ZHO
open ZeB ZeC Zm in
theorem ZvD (o:Ow)(id most:Int)(l:List Int){f1:FuncId}(hcb:Za Tryz.prog f1=true){f:Int->Ow->Ow}{sz:Int->Nat}(hsz: ∀x p,(f x p).b.length<=p.b.length+sz x)
 (hone: ∀x p,x∈l->p.b.length+sz x<=1000000000->AM Tryz.prog f1 [.ptr 0 0,.int .i64 x] (owM 0 1000 p) [0] (fun r m=>r= .tup []/\m=owM 0 1000 (f x p)))
 (hl:o.b.length+(Zaa sz l+30)<=1000000000) (hn:l.length<=1000000000) :
 AM Tryz.prog 26 [.ptr 0 0,.int .u8 id,.int .i64 most,.view l.length 1 (Zi .i64 l),.fn f1 []] (owM 0 1000 o) [0] (fun r m=>r= .tup []/\m=owM 0 1000 (Zbk f id most l o)):=by
 obtain⟨Y,hY⟩: ∃Y,Zbk f id most l o=Y:=⟨_,rfl⟩
 rw[hY]
 unfold Zbk at hY
 obtain⟨c,hc⟩: ∃c,decide ((l.length:Int)<=most)=c:=⟨_,rfl⟩
 rw[hc]at hY
 have hmust:=Zat o c
 have hlm:(Zy c o).b.length=o.b.length:=rfl
 generalize Zy c o=o1 at hY hmust hlm
 have hnum:True:=trivial
 have hput:True:=trivial
 by_cases h0:l.length=0
 ·rw[if_pos h0]at hY
  subst hY
  have d1:((l.length:Int)==0)=true:=beq_iff_eq.2 (by omega)
  have hone:True:=trivial
  obtain⟨b,bad⟩:=o
  obtain⟨b1,bad1⟩:=o1
  unfold owM at hmust ⊢
  simp only at hmust ⊢
  refine AM.enter Tryz.func26 rfl (Yaa rfl) (fun pn=> ?_)
  simp only[Tryz.f26]
  clear hlm hl
  have nx:=aI @hc (aI @d1 trivial)
  refine' Z0
  all_goals first|exact⟨trivial,trivial⟩|exact⟨rfl,trivial⟩|exact⟨rfl,rfl⟩|exact⟨trivial,rfl⟩|(exfalso;omega)|trace_state
 ·rw[if_neg h0]at hY
  have d1:((l.length:Int)==0)=false:=Yam.2 (by omega)
  have hnum:=Zai ⟨[],o1.bad⟩ [(l.length:Int)] (by simp only[List.length_singleton,List.length_nil];omega)
  have hln:=Zq [(l.length:Int)] ⟨[],o1.bad⟩
  simp only[List.length_singleton,List.length_nil]at hln
  obtain⟨b,bad⟩:=o
  obtain⟨b1,bad1⟩:=o1
  simp only at hY hnum hln hlm
  generalize Z9 [(l.length:Int)] ⟨[],bad1⟩=p0 at hY hnum hln
  have hrl:=Zco hsz l p0
  have hput:=fun p (h:p.b.length<=Zaa sz l+10)=>ZdW ⟨b1,bad1⟩ p id (by simp only;simp only at hl;omega)
  have hY:Zf1 id (ZbA f (l.drop 0) p0) ⟨b1,bad1⟩=Y:=hY
  have hr0:(ZbA f (l.drop 0) p0).b.length<=Zaa sz l+10:=by show(ZbA f l p0).b.length<=_;omega
  have hs0:p0.b.length+Zaa sz (l.drop 0)<=Zaa sz l+10:=by show p0.b.length+Zaa sz l<=_;omega
  unfold owM at hmust hnum hput hone
  unfold owM
  simp only[List.cons_append,List.nil_append]at hmust hput ⊢
  obtain⟨bp,badp⟩:=p0
  simp only at hnum
  refine AM.enter Tryz.func26 rfl (Yaa rfl) (fun pn=> ?_)
  simp only[Tryz.f26]
  have nx:=aI @hc (aI @d1 trivial)
  refine' Z0
  refine AW.loop [0,1,4,10,33,34,35] [0,1000,27,28000] (fun m st=> ∃(k:Nat) (p:Ow),st=Ns pn ⟨b1,bad1⟩ p id f1 l k/\k<=l.length/\p.b.length+Zaa sz (l.drop k)<=Zaa sz l+10/\Zf1 id (ZbA f (l.drop k) p) ⟨b1,bad1⟩=Y/\m=l.length-k) ?_ ?_
  ·exact⟨_,0,⟨bp,badp⟩,rfl,Nat.zero_le _,hs0,hY,rfl⟩
  clear hmust hnum hY hs0 hr0 hrl hln
  rintro m st ⟨k,p,rfl,hk,hs,hY,rfl⟩
  have hmust:True:=trivial
  have hnum:True:=trivial
  by_cases hkl:k<l.length
  ·have dk:decide ((k:Int)<(l.length:Int))=true:=Yae (by omega)
   have e7:IntKind.i64.wrap ((k:Int)+1)=((k+1:Nat):Int):=Zc _ (by omega) (by omega)
   have hdr:l.drop k=l.getD k 0::l.drop (k+1):=ZbQ hkl
   rw[hdr,ZbA]at hY
   rw[hdr,Zaa]at hs
   have hmem:=Zbw hkl
   generalize hx:l.getD k 0=n at hY hs hmem
   have hone:=hone n p hmem (by omega)
   have hz:=hsz n p
   have hput:True:=trivial
   generalize f n p=p2 at hY hone hz
   have hs2:p2.b.length+Zaa sz (l.drop (k+1))<=Zaa sz l+10:=by omega
   obtain⟨b4,bad4⟩:=p
   obtain⟨b5,bad5⟩:=p2
   simp only at hone
   clear hs hz hmem
   have nx:=aI @dk (aI @hx (aI @e7 trivial))
   refine' Z0
   all_goals first
    |exact⟨l.length-(k+1),by omega,k+1,⟨b5,bad5⟩,rfl,by omega,hs2,hY,rfl⟩
  ·have dk:decide ((k:Int)<(l.length:Int))=false:=Yaf (by omega)
   obtain rfl:k=l.length:=by omega
   rw[Ya7 (Nat.le_refl _),ZbA]at hY
   rw[Ya7 (Nat.le_refl _),Zaa]at hs
   have hput:=hput p (by omega)
   rw[hY]at hput
   have hone:True:=trivial
   obtain⟨b4,bad4⟩:=p
   obtain⟨bY,badY⟩:=Y
   simp only at hput
   clear hs hY hl
   have nx:=aI @dk trivial
   refine' Z0
   all_goals first|exact⟨trivial,trivial⟩|exact⟨rfl,trivial⟩|exact⟨rfl,rfl⟩|exact⟨trivial,rfl⟩|(exfalso;omega)|trace_state
end
section
def sI (s:List UInt8):List Int:=s.map fun c=>(c.toNat:Int)
theorem Zns (s:List UInt8):(sI s).length=s.length:=List.length_map ..
theorem ZvE (s:List UInt8):s.map Zgg=Zi .u8 (sI s):=by
 simp only[Zi,sI,List.map_map];rfl
def Zsm (s:List UInt8):Prop:=AC Tryz.prog 61 [.str s] (fun r m=>r= .bool (ZaV (sI s))/\m=[])
def Zgu (s:List UInt8)(o:Ow):Ow:=Z6 (sI s) (Z9 [(s.length:Int)] (Zy (ZaV (sI s)) o))
theorem Zec (s:List UInt8)(o:Ow):(Zgu s o).b.length<=o.b.length+(s.length+10):=by
 unfold Zgu
 rw[Z7,Zns]
 have:=Zq [(s.length:Int)] (Zy (ZaV (sI s)) o)
 simp only[Yag,List.length_nil,ZaE]at this
 omega
theorem ZHP.NM:type_of% @MB.NM/\type_of% @owM.eq_1:=
 ⟨MB.NM,@owM.eq_1⟩
open ZHP
theorem ZFM.cl {p:Prop}(h:p:=by
 first
  |refine AWL.cM (f:=17) [(0,0),(1000,1000)] Zrv rfl rfl rfl rfl rfl rfl rfl (hmust) ?_
  |refine AWL.cM (f:=21) [(0,0),(1000,1000)] Zp8 rfl rfl rfl rfl rfl rfl rfl (hnum) ?_
  |refine AWL.frzG rfl rfl rfl ?_
  |refine AWL.cC (f:=61) ZHb rfl rfl rfl rfl rfl rfl (hv) ?_
 all_goals(apply_rules (newGoals:= .nonDependentOnly) only[dep];exact())):p:=h
open ZFM Zgn Zm in
theorem ZlB (o:Ow)(s:List UInt8)(hv:Zsm s)(hl:o.b.length+(s.length+20)<=1000000000):AM Tryz.prog 25 [.ptr 0 0,.str s] (owM 0 1000 o) [0] (fun r m=>r= .tup []/\m=owM 0 1000 (Zgu s o)):=by
 unfold Zsm at hv
 unfold Zgu
 generalize ZaV (sI s)=c at hv ⊢
 have hmust:=Zat o c
 have hlm:(Zy c o).b.length=o.b.length:=rfl
 generalize Zy c o=o1 at hmust hlm ⊢
 have hnum:=Zai o1 [(s.length:Int)] (by simp only[List.length_singleton];omega)
 have hln:=Zq [(s.length:Int)] o1
 simp only[List.length_singleton]at hln
 generalize Z9 [(s.length:Int)] o1=o2 at hnum hln ⊢
 have hb3:o2.b.length+s.length<=1000000000:=by omega
 have hsn:=ZvE s
 obtain⟨b,bad⟩:=o
 obtain⟨b1,bad1⟩:=o1
 obtain⟨b3,bad3⟩:=o2
 have hcut:List.take b3.length (Zi .u8 b3)=Zi .u8 b3:=Yad (by rw[Zb];exact Nat.le_refl _)
 have hap:Zi .u8 b3++Zi .u8 (sI s)=Zi .u8 (b3++sI s):=by simp only[Zi,List.map_append]
 have hle:(b3++sI s).length=b3.length+s.length:=by rw[Yal,Zns]
 unfold owM at hmust hnum
 unfold owM Z6
 simp only[hle]at hmust hnum hb3 ⊢
 refine AM.enter Tryz.func25 rfl (Yaa rfl) (fun pn=> ?_)
 simp only[Tryz.f25]
 clear hlm hl hln
 have nx:=aI @hcut (aI @hsn (aI @hap trivial))
 refine' Zcf
 all_goals first|exact⟨trivial,trivial⟩|exact⟨rfl,trivial⟩|exact⟨rfl,rfl⟩|exact⟨trivial,rfl⟩|(exfalso;omega)|trace_state
end
end Go.Proofs.YtimhmpdfioihlaaGreatDoor
namespace Go.Proofs.YtimhmpdfioihlaaGreatDoor
set_option maxRecDepth 20000
open Go Go.Abs
theorem ZyI (l:List Int)(hb:bytes l)(hl:l.length<=1000000000):AC Tryz.prog 77 [.view l.length 1 (Zi .u8 l)] (fun r m=>r= .bool (ZaV l)/\m=[]):=Znl.2 ⟨vwc⟩ ⟨vwd⟩ l hb hl
end Go.Proofs.YtimhmpdfioihlaaGreatDoor
namespace Go.Proofs.YtimhmpdfioihlaaGreatDoor
set_option maxRecDepth 20000
open Go Go.Abs Nat
attribute [local irreducible] AW AWL AC FW CW CWr IntKind.wrap
section
theorem Znt {l:List Int}(h:bytes l):Zi .u8 l=((Zi .u8 l).map Abs.byteOf).map Zgg:=by
 induction l with
 |nil=>rfl
 |cons x l ih=>
  have hx:=h x (List.mem_cons_self ..)
  have:=ih (fun y hy=>h y (Yaq _ hy))
  simp only[Zi,List.map_cons]at this ⊢
  rw[<- this]
  congr 1
  unfold byte at hx
  have e:(UInt8.ofNat x.toNat).toNat=x.toNat:=by
    rw[UInt8.toNat_ofNat'];exact Nat.mod_eq_of_lt (by omega)
  simp only[Abs.byteOf,Zgg,e,Int.toNat_of_nonneg hx.1]
theorem ZqI {b:List Int}{p:Int}{en:Nat}(h:okT b p en){s t:Int}(he:Zg0 (b.take en) p= .ok (s,t)):okT b t en/\p<s/\s<=t:=by
 unfold Zg0 at he
 rcases hz:nmT (b.take en) p with⟨e,q⟩|⟨n,q⟩
 ·rw[hz]at he;simp only[bnd]at he;cases he
 ·rw[hz]at he
  obtain⟨h2,h3,h4⟩:=Zbo h hz
  simp only[bnd,ZoN,h.len]at he
  split at he
  ·cases he
  ·simp only[Except.ok.injEq,Yai]at he
   obtain⟨rfl,rfl⟩:=he
   exact⟨h2.mv (by omega) (by omega),h3,by omega⟩
theorem Zha {b:List Int}{p:Int}{en:Nat}(h:okT b p en){l:List Int}{t:Int}(he:Zdp (b.take en) p= .ok (l,t)):okT b t en/\p<t/\bytes l/\l.length<=b.length:=by
 unfold Zdp at he
 rcases hz:Zg0 (b.take en) p with⟨e,q⟩|⟨n,q⟩
 ·rw[hz]at he;simp only[bnd]at he;cases he
 ·rw[hz]at he
  obtain⟨h2,h3,h4⟩:=ZqI h hz
  simp only[bnd,Except.ok.injEq,Yai]at he
  obtain⟨rfl,rfl⟩:=he
  exact⟨h2,by omega,fun x hx=>h.byt x (List.mem_of_mem_drop (List.mem_of_mem_take hx)),by rw[Yar,Yaw,h.len];have:=h.he;omega⟩
open MB
theorem ZDx.cl {p:Prop}(h:p:=by
 first
  |refine AWL.cMP (f:=74) [] ZzU rfl rfl rfl rfl rfl rfl rfl (hfail) ?_ ?_
  |refine AWL.cMP (f:=76) [(0,0)] ZGr rfl rfl rfl rfl rfl rfl rfl (hbytes) ?_ ?_
  |refine AWL.frzG rfl rfl rfl ?_
  |refine AWL.cC (f:=77) ZHd rfl rfl rfl rfl rfl rfl (hval) ?_
 all_goals(apply_rules (newGoals:= .nonDependentOnly) only[dep];exact())):p:=h
theorem ZDx.sd {p:Prop}(h:p:=by first|exact Zxd):p:=h
open ZDx ZeA in
theorem ZiB {b:List Int}{p:Int}{en:Nat}(h:okT b p en):TF 51 [] b en p (Ze3 (b.take en) p) .str:=by
 have hbytes:=Znm h
 have hfail:=Zdq 10
 have hbm:=fun l t=>Zha h (l:=l) (t:=t)
 obtain⟨A,hA⟩: ∃A,Ze3 (b.take en) p=A:=⟨_,rfl⟩
 rw[hA]
 unfold Ze3 at hA
 unfold TF OKR ERR tpM at hbytes
 unfold TF OKR ERR tpM
 rcases hz:Zdp (b.take en) p with⟨e,t⟩|⟨l,t⟩
 all_goals
  rw[hz]at hA hbytes hbm
  simp only[bnd]at hA hbytes
 ·subst hA
  have hval:True:=trivial
  refine AMP.enter Tryz.func51 rfl (Yaa rfl) (fun pn=> ?_)
  simp only[Tryz.f51]
  have nx:=trivial
  refine' ZbW
  all_goals first|exact⟨trivial,trivial⟩|exact⟨rfl,trivial⟩|exact⟨rfl,rfl⟩|exact⟨trivial,rfl⟩|(exfalso;omega)|trace_state
 ·obtain⟨_,_,hby,hll⟩:=hbm _ _ rfl
  have hval:=ZyI l hby (by have:=h.hl;omega)
  rcases hv:ZaV l with _|_
  ·rw[hv]at hval
   rw[if_neg (by rw[hv];decide)]at hA
   subst hA
   refine AMP.enter Tryz.func51 rfl (Yaa rfl) (fun pn=> ?_)
   simp only[Tryz.f51]
   have nx:=trivial
   refine' ZbW
   all_goals first|exact⟨trivial,trivial⟩|exact⟨rfl,trivial⟩|exact⟨rfl,rfl⟩|exact⟨trivial,rfl⟩|(exfalso;omega)|trace_state
  ·rw[hv]at hval
   rw[if_pos hv]at hA
   subst hA
   unfold toS
   refine AMP.enter Tryz.func51 rfl (Yaa rfl) (fun pn=> ?_)
   simp only[Tryz.f51]
   have nx:=trivial
   refine' ZbW
   all_goals first|exact⟨trivial,trivial⟩|exact⟨rfl,trivial⟩|exact⟨rfl,rfl⟩|exact⟨trivial,rfl⟩|(exfalso;omega)|trace_state
end
end Go.Proofs.YtimhmpdfioihlaaGreatDoor
namespace Go.Proofs.YtimhmpdfioihlaaGreatDoor
set_option maxRecDepth 20000
open Go Go.Abs
attribute [local irreducible] AW AWL AC FW CW CWr IntKind.wrap
def ZhR (i:Zm5):V:= .agg [.int .i64 i.1,.int .i64 i.2.1,.bool i.2.2.1,.view i.2.2.2.1.length 1 (Zi .i64 i.2.2.2.1),.view i.2.2.2.2.length 1 (Zi .i64 i.2.2.2.2)]
theorem ZvF (i:Zm5)(b:Bool):ZlU 3004 (Zi .i64 i.2.2.2.2) (ZlU 3003 (Zi .i64 i.2.2.2.1) (.tup [ZAJ i,.bool b]))= .tup [ZhR i,.bool b]:=by
 simp[ZlU,ZAJ,ZhR,V.frz,V.wipe,Yad (Nat.le_of_eq (Zb .i64 _))]
theorem ZjD (op:Int):AC Tryz.prog 128 [.int .i64 op] (fun r m=>r= .tup [ZhR (ofS op).1,.bool (ofS op).2]/\m=[]):=by
 have:=(ZFE op).frzF.frzF
 rw[ZvF]at this
 exact this
end Go.Proofs.YtimhmpdfioihlaaGreatDoor
