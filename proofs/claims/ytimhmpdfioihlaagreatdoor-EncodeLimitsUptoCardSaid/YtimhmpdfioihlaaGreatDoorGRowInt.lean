/- put, tables. -/
import Derived.Test.YtimhmpdfioihlaaGreatDoorDP
import Derived.Test.YtimhmpdfioihlaaGreatDoorGPreV
import Derived.Test.YtimhmpdfioihlaaGreatDoorGV6
import Derived.Test.YtimhmpdfioihlaaGreatDoorGCB
import Derived.Test.YtimhmpdfioihlaaGreatDoorGLook
import Derived.Test.YtimhmpdfioihlaaGreatDoorWR1
import Derived.Test.YtimhmpdfioihlaaGreatDoorGEN6
import Derived.Test.YtimhmpdfioihlaaGreatDoorGMT1
import Derived.Test.YtimhmpdfioihlaaGreatDoorEIns
import Derived.Test.YtimhmpdfioihlaaGreatDoorGMT5
import Derived.Test.YtimhmpdfioihlaaGreatDoorGAMD
set_option linter.unusedSimpArgs false
set_option linter.unusedVariables false
set_option maxHeartbeats 12800000
namespace Go.Proofs.YtimhmpdfioihlaaGreatDoor
set_option maxRecDepth 20000
open Go Go.Abs Nat
theorem ZFR:Za Tryz.prog 135=true:=by kernel_rfl
attribute [local irreducible] AW AWL AC FW CW CWr IntKind.wrap
section
def S4w (i:Ins)(ok:Bool)(o:List Int)(k:Nat):St:={ n:=185,slots:=[(1,.ptr 1 0),(5,.bool ok),(6,.ref 6 0 o.length 1),(7,.view (uB i.a).length 1 (Zi .u8 (uB i.a))),(101,.view i.l.length 1 (Zi .i64 i.l)),(102,.int .i64 i.l.length),(103,.int .i64 (k:Int))],mem:=[(1,⟨false,[.int .i64 i.op,.int .i64 i.a,.int .i64 i.b,.int .u64 i.lo,.int .u64 i.hi,.view i.l.length 1 (Zi .i64 i.l)]⟩),(6,⟨true,Zi .u8 o⟩)] }
theorem ZyK (o:List Int)(L:List Int){k:Nat}(h:k<L.length):(o++uB (L.getD k 0))++(L.drop (k+1)).flatMap uB=o++(L.drop k).flatMap uB:=by
 have hdr:L.drop k=L.getD k 0::L.drop (k+1):=by
  rw[List.drop_eq_getElem_cons h,Yah,Yab h];rfl
 rw[hdr,List.flatMap_cons,Ya6]
theorem ZrR (ok:Bool)(L:List Int){k:Nat}(h:k<L.length):((ok&&Zcu (L.getD k 0))&&(L.drop (k+1)).all Zcu)=(ok&&(L.drop k).all Zcu):=by
 have hdr:L.drop k=L.getD k 0::L.drop (k+1):=by
  rw[List.drop_eq_getElem_cons h,Yah,Yab h];rfl
 rw[hdr,List.all_cons,Bool.and_assoc]
theorem ZHR.NM:type_of% @MB.NM/\type_of% @ZhR.eq_1/\type_of% @T8w.eq_1/\type_of% @S4w.eq_1:=
 ⟨MB.NM,@ZhR.eq_1,@T8w.eq_1,@S4w.eq_1⟩
open ZHR
theorem ZFS.cl {p:Prop}(h:p:=by
 first
  |refine AWL.frzG rfl rfl rfl ?_
  |refine AWL.cC (f:=128) ZjZ rfl rfl rfl rfl rfl rfl (hof) ?_
  |refine AWL.cC (f:=129) ZkR rfl rfl rfl rfl rfl rfl (hre) ?_
  |refine AWL.cC (f:=60) Zkn rfl rfl rfl rfl rfl rfl (hpu) ?_
  |refine AWL.cC (f:=60) Zkn rfl rfl rfl rfl rfl rfl (hpb) ?_
  |refine AWL.cC (f:=60) Zkn rfl rfl rfl rfl rfl rfl (hpl) ?_
  |refine AWL.cC (f:=131) Ze2 rfl rfl rfl rfl rfl rfl (hna) ?_
  |refine AWL.cC (f:=131) Ze2 rfl rfl rfl rfl rfl rfl (hnb) ?_
 all_goals(apply_rules (newGoals:= .nonDependentOnly) only[dep];exact())):p:=h
open ZFS ZoE Zm in
theorem ZHS (i:Ins)(hi:ZbM i)(hok:(ofS i.op).2=true/\ZdT i (ofS i.op).1.1=true)(h4:(ofS i.op).1.1=4) :
 AC Tryz.prog 107 [.agg (ZgV i)] (fun v m=>ZAd (Zdo i) v m):=by
 obtain⟨A,hA⟩: ∃A,Zdo i=A:=⟨_,rfl⟩
 rw[hA]
 obtain⟨z,hz⟩: ∃z,ofS i.op=z:=⟨_,rfl⟩
 have hof:=ZjD i.op
 have hre:=Zlo i z.1.1 hi.n
 have hpu:=ZoV (i.op-64768)
 have hpb:=ZoV i.a
 have hps:True:=trivial
 have hna:True:=trivial
 have hpl:True:=trivial
 have hnb:True:=trivial
 have f1:True:=trivial
 have f2:True:=trivial
 have f3:True:=trivial
 unfold Zdo at hA
 have hop1:=hi.op
 have hol:=Zlz i.op
 have hal:=ZcU i.a
 have e1:IntKind.u8.wrap i.op=i.op%256:=Zj (k:= .u8) rfl _
 have e3:IntKind.u64.wrap i.a=i.a%18446744073709551616:=Zj (k:= .u64) rfl _
 have e4:IntKind.u64.wrap i.b=i.b%18446744073709551616:=Zj (k:= .u64) rfl _
 rw[hz]at hof hA h4 hok
 unfold ZAd
 obtain⟨B,hB⟩: ∃B,ZdT i z.1.1=B:=⟨_,rfl⟩
 rw[hB]at hre hA hok
 obtain⟨z1,z2⟩:=z
 simp only at hof hre hA h4 hok
 unfold ZgV at hre ⊢
 refine AC.enter Tryz.func107 rfl (Yaa rfl) ?_
 simp only[Tryz.f107]
 rw[if_pos hok]at hA
 obtain⟨rfl,rfl⟩:=hok
 clear hz
 have nx:=aI @e1 trivial
 refine' Zqf
 rename_i Qm hQm hPm
 have hrest: ∀s:St,s.keep [1,4,5,6] [1,4,6]=T8w i z1 (opB i.op)->Qm .normal s:=by
  clear hof hre hpu
  intro s hs
  refine QEq.mp hQm ?_
  simp only[Zbd,Go.Abs.blockQ,↓reduceIte,Nat.reduceEqDiff]
  refine AW.keep [1,4,5,6] [1,4,6] ?_
  rw[hs]
  unfold Zif at hA
  generalize opB i.op=o at hol hA
  have hlo:List.take o.length o=o:=Yau
  have hna:=ZeM i.a
  have hnb:=ZeM i.b
  have hps:=ZCh i.a hi.a
  have hpl:=Zc7 9 i.a (by have:=hi.a;simp only[Nat.reduceMul,Int.reducePow,Int.reduceMul];omega)
  have hpu:=ZoV i.b
  have hbl:=ZcU i.b
  have sp1:Zcu i.a=true\/Zcu i.a=false:=by cases Zcu i.a<;>simp
  have sp2:Zcu i.b=true\/Zcu i.b=false:=by cases Zcu i.b<;>simp
  have e10:IntKind.u8.wrap i.lo=i.lo%256:=Zj (k:= .u8) rfl _
  have hl2:List.take (o.length+(uB i.a).length+(uB i.b).length) (o++uB i.a++uB i.b)=o++uB i.a++uB i.b:=by rw[<- Yal,<- Yal,Yau]
  rw[if_neg (by omega),if_neg (by omega),if_neg (by omega),if_pos h4]at hA
  have hnl:=hi.n
  have hll:=hi.l
  have hpl:=ZoV (i.l.length:Int)
  have e11:IntKind.u64.wrap (i.l.length:Int)=(i.l.length:Int)%18446744073709551616:=Zj (k:= .u64) rfl _
  have hbl:=ZcU (i.l.length:Int)
  generalize hO:o++uB (i.l.length:Int)++i.l.flatMap uB=O at hA
  have nx:=aI @h4 (aI @e3 (aI @e11 trivial))
  refine' Zev
  refine AW.loop [1,5,6,7,101,102,103] [1,6] (fun m st=> ∃(k:Nat) (p:List Int) (ok:Bool),st=S4w i ok p k/\k<=i.l.length/\p.length<=100+10*k/\p++(i.l.drop k).flatMap uB=O/\(ok&&(i.l.drop k).all Zcu)=i.l.all Zcu/\m=i.l.length-k) ?_ ?_
  ·exact⟨_,0,o++uB (i.l.length:Int),true,by rw[S4w,Yal];rfl,Nat.zero_le _,by rw[Yal];omega,hO,rfl,rfl⟩
  rintro m st ⟨k,p,ok,rfl,hk,hpk,hpO,hok,rfl⟩
  clear hpl hlo
  by_cases hkl:k<i.l.length
  ·have e7:IntKind.i64.wrap ((k:Int)+1)=((k+1:Nat):Int):=Zc _ (by omega) (by omega)
   have hlo:List.take p.length p=p:=Yau
   have e12:IntKind.u64.wrap (i.l.getD k 0)=i.l.getD k 0%18446744073709551616:=Zj (k:= .u64) rfl _
   have hpl:=ZoV (i.l.getD k 0)
   have hna:=ZeM (i.l.getD k 0)
   have hul:=ZcU (i.l.getD k 0)
   have hpO:=(ZyK p i.l hkl).trans hpO
   have hok:=(ZrR ok i.l hkl).trans hok
   rcases ok with _|_
   all_goals
    have nx:=aI @e7 (aI @e12 (aI @hlo trivial))
    refine' Zev
    all_goals first
     |exact⟨i.l.length-(k+1),by omega,k+1,p++uB (i.l.getD k 0),false,by rw[S4w,Yal];rfl,by omega,by rw[Yal];omega,hpO,hok,rfl⟩
     |exact⟨i.l.length-(k+1),by omega,k+1,p++uB (i.l.getD k 0),Zcu (i.l.getD k 0),by rw[S4w,Yal];rfl,by omega,by rw[Yal];omega,hpO,hok,rfl⟩
  ·rw[Ya7 (by omega)]at hpO hok
   simp only[List.flatMap_nil,List.append_nil,List.all_nil,Bool.and_true]at hpO hok
   subst hpO
   rw[<- hok]at hA
   subst hA
   have hlo:List.take p.length p=p:=Yau
   rcases ok with _|_
   all_goals
    have nx:=aI @hlo trivial
    refine' Zev
    all_goals first
     |(refine .inr ⟨2,?_,rfl⟩;rw[Yal];done)
     |(refine .inr ⟨2,?_,rfl⟩;simp only[Yal,Bool.true_and,Bool.false_and];done)
 clear hQm
 by_cases hbig:i.op>=64768
 ·have e2:IntKind.u64.wrap (i.op-64768)=(i.op-64768)%18446744073709551616:=Zj (k:= .u64) rfl _
  have e5:IntKind.i64.wrap (i.op-64768)=i.op-64768:=Zc _ (by omega) (by omega)
  have hob:opB i.op=253::uB (i.op-64768):=if_pos hbig
  have hou:=ZcU (i.op-64768)
  have nx:=aI @e2 (aI @e5 trivial)
  refine' Zev
  all_goals first
   |exact hrest _ (by rw[hob];rfl)
   |exact hrest _ (by rw[hob,T8w,show(253::uB (i.op-64768)).length=1+(uB (i.op-64768)).length by simp only[Yag];omega];rfl)
 ·have hob:opB i.op=[i.op%256]:=if_neg hbig
  have nx:=trivial
  refine' Zev
  all_goals first
   |exact hrest _ (by rw[hob];rfl)
end
section
theorem ZBo (h:50<Tryz.prog.types.size):(Tryz.prog.types[50]'h).bytes=64:=by kernel_rfl
def T8r (b:List Int)(r:Rd)(l:List Ins):St:={ n:=49,slots:=[(7,.ptr 21 0),(8,.ref 8 0 l.length 6)],mem:=[(21,⟨false,[.view b.length 1 (Zi .u8 b),.int .i64 r.pos,.ref 22002 0 r.op.length 1,.int .i64 r.err]⟩),(22002,⟨true,Zi .i64 (r.op++r.jk)⟩),(8,⟨true,Zap l⟩)] }
theorem ZvI {b:List Int}{p:Int}(h:p<0\/p>b.length):ZbG b p=([],0,1):=if_pos h
theorem ZDA.NM:type_of% @MB.NM/\type_of% @T8r.eq_1/\type_of% @ZBo:=
 ⟨MB.NM,@T8r.eq_1,@ZBo⟩
open ZDA
theorem ZoZ.kp:type_of% (@Z2 [0,1,4,5,6,7,8,9]):= @Z2 [0,1,4,5,6,7,8,9]
theorem ZoZ.cl {p:Prop}(h:p:=by
 first
  |refine AWL.cM (f:=143) [(0,21),(1002,22002)] ZEN rfl rfl rfl rfl rfl rfl rfl (hin) ?_
  |refine AWL.cM (f:=144) [(0,21),(1002,22002)] ZEO rfl rfl rfl rfl rfl rfl rfl (hcl) ?_
 all_goals(apply_rules (newGoals:= .nonDependentOnly) only[dep];exact())):p:=h
theorem ZoZ.sd {p:Prop}(h:p:=by first|exact Zxl):p:=h
open ZoZ in
theorem ZvJ (b:List Int)(hb:bytes b)(hlen:b.length<=100000000)(p:Int) :
 AC Tryz.prog 135 [.view b.length 1 (Zi .u8 b),.int .i64 p] (fun v m=>((ZbG b p).1=[]/\v= .tup [.nils,.int .i64 (ZbG b p).2.1,.int .i64 (ZbG b p).2.2]/\m=[])\/ ∃k,v= .tup [.ref k 0 (ZbG b p).1.length 6,.int .i64 (ZbG b p).2.1,.int .i64 (ZbG b p).2.2]/\m=[(k,Zap (ZbG b p).1)]):=by
 have hin:True:=trivial
 have hcl:True:=trivial
 obtain⟨A,hA⟩: ∃A,ZbG b p=A:=⟨_,rfl⟩
 rw[hA]
 by_cases hp:p<0\/p>b.length
 ·rw[ZvI hp]at hA
  subst hA
  refine AC.enter Tryz.func135 rfl (Yaa rfl) ?_
  simp only[Tryz.f135]
  have nx:=trivial
  refine' ZfF
  all_goals first|exact⟨trivial,trivial⟩|exact⟨rfl,trivial⟩|exact⟨rfl,rfl⟩|exact⟨trivial,rfl⟩|exact .inr ⟨4,rfl,rfl⟩|(exfalso;omega)|trace_state
 ·unfold ZbG at hA
  rw[if_neg hp]at hA
  refine AC.enter Tryz.func135 rfl (Yaa rfl) ?_
  simp only[Tryz.f135]
  have hlc:=Zni
  have nx:=trivial
  refine' ZfF
  refine AW.loop [7,8] [21,22002,8] (fun m st=> ∃(n:Nat) (r:Rd) (l:List Ins),st=T8r b r l/\ZcB b r/\r.err=0/\r.op.length<=128/\(l.length:Int)<=r.pos/\(b.length:Int)+1<=n+r.pos/\ZdU b n r l=A/\n=m) ?_ ?_
  ·exact⟨_,b.length+1,⟨p,[],[],0⟩,[],rfl,⟨by simp only;omega,by simp only;omega⟩,rfl,Nat.zero_le _,by simp only[List.length_nil];omega,by simp only;omega,hA,rfl⟩
  rintro m st ⟨n,r,l,rfl,hr,he,hol,hll,hn,hL,rfl⟩
  obtain⟨n',rfl⟩: ∃n',n=n'+1:=⟨n-1,by have:=hr.p1;omega⟩
  have hin:=ZrQ b hb (by omega) r hr (by omega)
  have had:=Zkw hb hr
  have hlen2:=ZrI (b:=b) hol
  rw[ZdU]at hL
  generalize Zbn b r=z at hin had hlen2 hL
  obtain⟨i,r2⟩:=z
  simp only at had hlen2 hL
  have hcl:=ZrE b r2
  have hp1:=hr.p1
  have hp2:=had.1.ok.p1
  unfold rdM ZFN at hin
  by_cases he2:r2.err≠0
  ·rw[if_pos he2]at hL
   subst hL
   have nx:=trivial
   refine' ZfF
   all_goals first|exact⟨trivial,trivial⟩|exact⟨rfl,trivial⟩|exact⟨rfl,rfl⟩|exact⟨trivial,rfl⟩|exact .inl ⟨trivial,trivial,trivial⟩|(exfalso;omega)|trace_state
  ·rw[if_neg he2]at hL
   obtain⟨hadv,hpos⟩:=had
   have he3:r2.err=0:=Classical.not_not.1 he2
   have hpos:=hpos he3
   have hol2:=hlen2 he3
   have hcl:=hcl (by omega)
   have hla:(l++[i]).length=l.length+1:=by simp
   have hld:ZgV i=[.int .i64 i.op,.int .i64 i.a,.int .i64 i.b,.int .u64 i.lo,.int .u64 i.hi,.view i.l.length 1 (Zi .i64 i.l)]:=rfl
   have hsn:Zap l++[.int .i64 i.op,.int .i64 i.a,.int .i64 i.b,.int .u64 i.lo,.int .u64 i.hi,.view i.l.length 1 (Zi .i64 i.l)]=Zap (l++[i]):=ZrJ l i
   have hcut:List.take (l.length*6) (Zap l)=Zap l:=Yad (by rw[hlc];omega)
   unfold rdM at hcl
   by_cases h11:i.op=11
   ·rw[if_pos h11]at hL
    unfold ZeW at hL hcl
    by_cases h0:r2.op.length=0
    ·rw[if_pos h0]at hL hcl
     simp only[↓reduceIte]at hL
     subst hL
     have nx:=aI @Yau.{0} (aI @hsn (aI @hcut trivial))
     refine' ZfF
     all_goals first|exact⟨trivial,trivial⟩|exact⟨rfl,trivial⟩|exact⟨rfl,rfl⟩|exact⟨trivial,rfl⟩|exact .inr ⟨8,by rw[hla],rfl⟩|(exfalso;omega)|trace_state
    ·rw[if_neg h0]at hL hcl
     simp only at hL
     rw[if_neg (by decide)]at hL
     have nx:=aI @Yau.{0} (aI @hsn (aI @hcut trivial))
     refine' ZfF
     all_goals first
      |exact⟨n',by omega,n',{ r2 with op:=r2.op.take (r2.op.length-1),jk:=r2.op.drop (r2.op.length-1)++r2.jk },l++[i],by rw[T8r,hla];rfl,⟨hadv.ok.p0,hadv.ok.p1⟩,he3,by simp only[Yar];omega,by rw[hla];simp only;omega,by simp only;omega,hL,rfl⟩
   ·rw[if_neg h11]at hL
    have nx:=aI @Yau.{0} (aI @hsn (aI @hcut trivial))
    refine' ZfF
    all_goals first
     |exact⟨n',by omega,n',r2,l++[i],by rw[T8r,hla];rfl,hadv.ok,he3,hol2,by rw[hla];omega,by omega,hL,rfl⟩
theorem ZyL (b:List Int)(hb:bytes b)(hlen:b.length<=100000000)(p:Int) :
 AC Tryz.prog 135 [.view b.length 1 (Zi .u8 b),.int .i64 p] (fun v m=>v= .tup [.view (ZbG b p).1.length 6 (Zap (ZbG b p).1),.int .i64 (ZbG b p).2.1,.int .i64 (ZbG b p).2.2]/\m=[]):=by
 refine(ZvJ b hb hlen p).out fun v m h=> ?_
 rcases h with⟨h0,rfl,rfl⟩|⟨k,rfl,rfl⟩
 ·refine⟨_,_,⟨rfl,rfl⟩,fun S w w' u ho=>ho.wk (Wk.tup ?_)⟩
  rw[h0]
  exact .cons (Wk.nils 6) (WkL.refl _)
 ·refine⟨_,_,⟨rfl,rfl⟩,fun S w w' u ho=> ?_⟩
  have h2:=ho.frz
  have e:ZlU k (Zap (ZbG b p).1) (.tup [.ref k 0 (ZbG b p).1.length 6,.int .i64 (ZbG b p).2.1,.int .i64 (ZbG b p).2.2])= .tup [.view (ZbG b p).1.length 6 (Zap (ZbG b p).1),.int .i64 (ZbG b p).2.1,.int .i64 (ZbG b p).2.2]:=by
   simp only[ZlU,V.frz,V.wipe,List.map_cons,List.map_nil,Ya4,cond_true,List.drop_zero,Yad (Nat.le_of_eq (Zni (ZbG b p).1))]
  rw[e]at h2;exact h2
end
section
def ZDB (x:Int×Int):V:= .agg [.int .i64 x.1,.int .i64 x.2]
def ZBp (c:List Ins):V:= .view c.length 6 (Zap c)
theorem ZcE {b:List Int}{p:Int}{en:Nat}{most:Int}(h:okT b p en){n t:Int}(he:Zh5 (b.take en) most p= .ok (n,t)):okT b t en/\p<t/\0<=n/\n<=most:=by
 unfold Zh5 at he
 rcases hz:nmT (b.take en) p with⟨e,q⟩|⟨m,q⟩
 ·rw[hz]at he;simp only[bnd]at he;cases he
 ·rw[hz]at he
  obtain⟨h2,h3,h4⟩:=Zbo h hz
  simp only[bnd]at he
  split at he
  ·cases he
  ·simp only[Except.ok.injEq,Yai]at he
   obtain⟨rfl,rfl⟩:=he
   exact⟨h2,h3,h4.1,by omega⟩
theorem ZfL (r:Rd):(ZeW r).2.pos=r.pos:=by unfold ZeW;split<;>rfl
theorem ZjE {b:List Int}(hb:bytes b): ∀(n:Nat) (r:Rd) (l code:List Ins) (to:Int),ZcB b r->ZdU b n r l=(code,to,0)->r.pos+1<=to/\to<=b.length
 |0,r,l,code,to,_,h=>by rw[ZdU]at h;simp at h
 |n+1,r,l,code,to,hr,h=>by
  obtain⟨h1,h2⟩:=Zkw hb hr
  rw[ZdU]at h
  split at h
  ·rename_i c
   simp only[Yai]at h
   exact absurd h.2.2 c
  ·rename_i c
   have h2:=h2 (Classical.not_not.1 c)
   have ho:ZcB b (ZeW (Zbn b r).2).2:=⟨by rw[ZfL];exact h1.ok.p0,by rw[ZfL];exact h1.ok.p1⟩
   split at h
   ·split at h
    ·simp only[Yai]at h
     obtain⟨_,rfl,_⟩:=h
     exact⟨by rw[ZfL];exact h2,ho.p1⟩
    ·have:=ZjE hb n _ _ code to ho h
     rw[ZfL]at this
     omega
   ·have:=ZjE hb n _ _ code to h1.ok h
    omega
theorem ZeR {b:List Int}{p:Int}{en:Nat}(h:okT b p en){c:List Ins}{t:Int}(he:Zea (b.take en) p= .ok (c,t)):okT b t en/\p<t:=by
 unfold Zea at he
 split at he
 ·cases he
 ·rename_i c0
  simp only[Except.ok.injEq,Yai]at he
  obtain⟨rfl,rfl⟩:=he
  have h1: ¬(p<0\/p>((b.take en).length:Int)):=by rw[h.len];have:=h.p0;have:=h.p1;omega
  have c0:=Classical.not_not.1 c0
  have hr:ZbG (b.take en) p=ZdU (b.take en) ((b.take en).length+1) ⟨p,[],[],0⟩ []:=if_neg h1
  rw[hr]at c0 ⊢
  have:=ZjE h.byt _ _ _ _ _ ⟨h.p0,by rw[h.len];exact h.p1⟩ (Prod.ext rfl (Prod.ext rfl c0))
  generalize ZdU (b.take en) ((b.take en).length+1) ⟨p,[],[],0⟩ []=z at this ⊢
  obtain⟨z1,z2,z3⟩:=z
  rw[h.len]at this
  simp only at this ⊢
  exact⟨h.mv (by omega) this.2,by omega⟩
open MB
theorem ZDC.kp:type_of% (@Z2 [0,1,4,5,6]):= @Z2 [0,1,4,5,6]
theorem ZDC.cl {p:Prop}(h:p:=by
 first
  |refine AWL.cMP (f:=74) [] ZzU rfl rfl rfl rfl rfl rfl rfl (hfail) ?_ ?_
  |refine AWL.cMP (f:=50) [(0,0)] Zrw rfl rfl rfl rfl rfl rfl rfl (hnum) ?_ ?_
  |refine AWL.cMP (f:=115) [(0,0)] Zw0 rfl rfl rfl rfl rfl rfl rfl (hcount) ?_ ?_
  |refine AWL.cMP (f:=48) [(0,0)] ZzT rfl rfl rfl rfl rfl rfl rfl (hbyte) ?_ ?_
  |refine AWL.frzG rfl rfl rfl ?_
 all_goals(apply_rules (newGoals:= .nonDependentOnly) only[dep];exact())):p:=h
theorem ZFT.cl {p:Prop}(h:p:=by
 first
  |refine AWL.cMP (f:=74) [] ZzU rfl rfl rfl rfl rfl rfl rfl (hfail) ?_ ?_
  |refine AWL.frzG rfl rfl rfl ?_
  |refine AWL.cC (f:=135) ZFR rfl rfl rfl rfl rfl rfl (hread) ?_
 all_goals(apply_rules (newGoals:= .nonDependentOnly) only[dep];exact())):p:=h
open ZDC Zm in
theorem ZvK {b:List Int}{p:Int}{en:Nat}(h:okT b p en)(most:Int):TF 85 [.int .i64 most] b en p (Zjx (b.take en) most p) ZDB:=by
 have hbyte:=Zdb h
 have hbm:=fun n t=>Za2 h (n:=n) (t:=t)
 have hfail:=Zdq 10
 have hcount:True:=trivial
 have hnum:True:=trivial
 obtain⟨A,hA⟩: ∃A,Zjx (b.take en) most p=A:=⟨_,rfl⟩
 rw[hA]
 unfold Zjx at hA
 unfold TF OKR ERR tpM at hbyte
 unfold TF OKR ERR tpM
 rcases hz:Zcj (b.take en) p with⟨e,t⟩|⟨f,t⟩
 all_goals
  rw[hz]at hA hbyte hbm
  simp only[bnd]at hA hbyte
 ·subst hA
  refine AMP.enter Tryz.func85 rfl (Yaa rfl) (fun pn=> ?_)
  simp only[Tryz.f85]
  have nx:=trivial
  refine' ZbW
  all_goals first|exact⟨trivial,trivial⟩|exact⟨rfl,trivial⟩|exact⟨rfl,rfl⟩|exact⟨trivial,rfl⟩|(exfalso;omega)|trace_state
 obtain⟨h2,h3,h4⟩:=hbm _ _ rfl
 by_cases c:f>1
 ·rw[if_pos c]at hA
  subst hA
  refine AMP.enter Tryz.func85 rfl (Yaa rfl) (fun pn=> ?_)
  simp only[Tryz.f85]
  have nx:=trivial
  refine' ZbW
  all_goals first|exact⟨trivial,trivial⟩|exact⟨rfl,trivial⟩|exact⟨rfl,rfl⟩|exact⟨trivial,rfl⟩|(exfalso;omega)|trace_state
 rw[if_neg c]at hA
 have hcount:=Zby h2 most
 have hcm:=fun n q=>ZcE h2 (most:=most) (n:=n) (t:=q)
 unfold TF OKR ERR tpM at hcount
 rcases hz2:Zh5 (b.take en) most t with⟨e,q⟩|⟨n,q⟩
 all_goals
  rw[hz2]at hA hcount hcm
  simp only at hA hcount
 ·subst hA
  refine AMP.enter Tryz.func85 rfl (Yaa rfl) (fun pn=> ?_)
  simp only[Tryz.f85]
  have nx:=trivial
  refine' ZbW
  all_goals first|exact⟨trivial,trivial⟩|exact⟨rfl,trivial⟩|exact⟨rfl,rfl⟩|exact⟨trivial,rfl⟩|(exfalso;omega)|trace_state
 obtain⟨h5,h6,h7⟩:=hcm _ _ rfl
 by_cases c1:f=1
 case neg=>
  rw[if_neg c1]at hA
  subst hA
  have d1:(f==1)=false:=by rw[Yam];exact c1
  unfold ZDB
  refine AMP.enter Tryz.func85 rfl (Yaa rfl) (fun pn=> ?_)
  simp only[Tryz.f85]
  have nx:=aI @d1 trivial
  refine' ZbW
  all_goals first|exact⟨trivial,trivial⟩|exact⟨rfl,trivial⟩|exact⟨rfl,rfl⟩|exact⟨trivial,rfl⟩|(exfalso;omega)|trace_state
 rw[if_pos c1]at hA
 subst c1
 have hnum:=ZcC h5
 unfold TF OKR ERR tpM at hnum
 rcases hz3:nmT (b.take en) q with⟨e,r⟩|⟨x,r⟩
 all_goals
  rw[hz3]at hA hnum
  simp only at hA hnum
  subst hA
  (try unfold ZDB)
  refine AMP.enter Tryz.func85 rfl (Yaa rfl) (fun pn=> ?_)
  simp only[Tryz.f85]
  have nx:=trivial
  refine' ZbW
  all_goals first|exact⟨trivial,trivial⟩|exact⟨rfl,trivial⟩|exact⟨rfl,rfl⟩|exact⟨trivial,rfl⟩|(exfalso;omega)|trace_state
open ZFT Zoz Zm in
theorem ZiC {b:List Int}{p:Int}{en:Nat}(h:okT b p en):TF 117 [] b en p (Zea (b.take en) p) ZBp:=by
 have hl:=h.hl;have he:=h.he
 have hread:=ZyL (b.take en) h.byt (by rw[h.len];omega) p
 have hlen:=h.len
 have htk:List.take en (Zi .u8 b)=Zi .u8 (b.take en):=by simp only[Zi,List.map_take]
 obtain⟨A,hA⟩: ∃A,Zea (b.take en) p=A:=⟨_,rfl⟩
 rw[hA]
 unfold Zea at hA
 rw[hlen]at hread
 generalize ZbG (b.take en) p=z at hread hA
 obtain⟨c,to,e⟩:=z
 simp only at hread hA
 have hfail:=Zdq e
 unfold TF OKR ERR tpM
 by_cases c1:e≠0
 ·rw[if_pos c1]at hA
  subst hA
  refine AMP.enter Tryz.func117 rfl (Yaa rfl) (fun pn=> ?_)
  simp only[Tryz.f117]
  have nx:=aI @htk trivial
  refine' Zqe
  all_goals first|exact⟨trivial,trivial⟩|exact⟨rfl,trivial⟩|exact⟨rfl,rfl⟩|exact⟨trivial,rfl⟩|(exfalso;omega)|trace_state
 ·rw[if_neg c1]at hA
  subst hA
  unfold ZBp
  refine AMP.enter Tryz.func117 rfl (Yaa rfl) (fun pn=> ?_)
  simp only[Tryz.f117]
  have nx:=aI @htk trivial
  refine' Zqe
  all_goals first|exact⟨trivial,trivial⟩|exact⟨rfl,trivial⟩|exact⟨rfl,rfl⟩|exact⟨trivial,rfl⟩|(exfalso;omega)|trace_state
end
section
def ZhS:Zig->List V
 |⟨xi,xo⟩=>[.view xi.length 1 (Zi .i64 xi),.view xo.length 1 (Zi .i64 xo)]
theorem ZfM (x:Zig):(ZhS x).length=2:=rfl
def ZEr (pn:Nat->Option BI)(f1:FuncId)(b:List Int)(en:Nat)(t:Int)(l:List Zig)(n:Nat):St:={ n:=22,slots:=[(0,.ptr 0 0),(2,.fn f1 [.ptr 0 0]),(7,.ref 7 0 l.length 2),(8,.int .i64 (n:Int))],mem:=[(0,⟨false,[.view b.length 1 (Zi .u8 b),.int .i64 t,.int .i64 en]⟩),(7,⟨true,l.flatMap ZhS⟩)],lent:=[(0,pn 0)] }
theorem ZBq.NM:type_of% @MB.NM/\type_of% @ZEr.eq_1:=
 ⟨MB.NM,@ZEr.eq_1⟩
open ZBq
open ZeD Zfh ZeE Zm in
theorem ZvL {b:List Int}{p:Int}{en:Nat}(h:okT b p en)(most:Int)(hm:most<=100000){f1:FuncId}(hcb:Za Tryz.prog f1=true){one:Int->Res Zig}
 (hone: ∀t,okT b t en->AMP Tryz.prog f1 [.ptr 0 0] (tpM 0 b t en) [0] (OKR (one t) (fun x=> .agg (ZhS x)) b en) (ERR (one t) b en))
 (hmv: ∀t a q,okT b t en->one t= .ok (a,q)->okT b q en) :
 AMP Tryz.prog 78 [.ptr 0 0,.int .i64 most,.fn f1 [.ptr 0 0]] (tpM 0 b p en) [0] (OKR (Z3 (b.take en) most one p) (fun l=> .view l.length 2 (l.flatMap ZhS)) b en) (ERR (Z3 (b.take en) most one p) b en):=by
 have hcount:=Zby h most
 have hcm:=fun n q=>ZcE h (most:=most) (n:=n) (t:=q)
 obtain⟨A,hA⟩: ∃A,Z3 (b.take en) most one p=A:=⟨_,rfl⟩
 rw[hA]
 unfold Z3 at hA
 unfold TF OKR ERR tpM at hcount
 unfold OKR ERR tpM at hone
 unfold OKR ERR tpM
 rcases hz:Zh5 (b.take en) most p with⟨e,q⟩|⟨n,q⟩
 all_goals
  rw[hz]at hA hcount hcm
  simp only[Zk,Zn]at hA hcount
  refine AMP.enter Tryz.func78 rfl (Yaa rfl) (fun pn=> ?_)
  simp only[Tryz.f78]
 ·subst hA
  have nx:=trivial
  refine' Zp
  all_goals first|exact⟨trivial,trivial⟩|exact⟨rfl,trivial⟩|exact⟨rfl,rfl⟩|exact⟨trivial,rfl⟩|(exfalso;omega)|trace_state
 obtain⟨h2,h3,h4⟩:=hcm _ _ rfl
 obtain⟨n0,rfl⟩: ∃n0:Nat,n=n0:=⟨n.toNat,by omega⟩
 have hA:bnd (Zda one n0 q) (fun r t=> .ok ([]++r,t))=A:=by rw[<- hA,Yap];exact ZeK _
 have hn0:n0<=100000:=by omega
 clear hcm hz h4
 have nx:=trivial
 refine' Zp
 refine AW.loop [0,2,7,8] [0,7] (fun m st=> ∃(n:Nat) (t:Int) (l:List Zig),st=ZEr pn f1 b en t l n/\okT b t en/\l.length+n=n0/\bnd (Zda one n t) (fun r t=> .ok (l++r,t))=A/\n=m) ?_ ?_
 ·exact⟨_,n0,q,[],rfl,h2,by simp,hA,rfl⟩
 rintro m st ⟨n,t,l,rfl,ht,hln,hA,rfl⟩
 clear hcount
 rcases n with _|n
 ·rw[Zda]at hA
  simp only[Zk,List.append_nil]at hA
  subst hA
  have hcut:List.take (l.length*2) (l.flatMap ZhS)=l.flatMap ZhS:=Yad (by rw[ZaQ ZfM];omega)
  have nx:=aI @hcut trivial
  refine' Zp
  all_goals first|exact⟨trivial,trivial⟩|exact⟨rfl,trivial⟩|exact⟨rfl,rfl⟩|exact⟨trivial,rfl⟩|(exfalso;omega)|trace_state
 ·have hone:=hone t ht
  have hmv:=hmv t
  have e1:IntKind.i64.wrap (((n+1:Nat):Int)-1)=(n:Int):=by rw[Zc _ (by omega) (by omega)];omega
  have d1:decide (((n+1:Nat):Int)>0)=true:=Yae (by omega)
  have hcut:List.take (l.length*2) (l.flatMap ZhS)=l.flatMap ZhS:=Yad (by rw[ZaQ ZfM];omega)
  rw[Zda]at hA
  rcases hz1:one t with⟨e,q⟩|⟨x,q⟩
  all_goals
   rw[hz1]at hA hone
   simp only[Zk,Zn]at hA hone
  ·subst hA
   have nx:=aI @e1 (aI @d1 (aI @hcut trivial))
   refine' Zp
   all_goals first|exact⟨trivial,trivial⟩|exact⟨rfl,trivial⟩|exact⟨rfl,rfl⟩|exact⟨trivial,rfl⟩|(exfalso;omega)|trace_state
  ·have ht2:=hmv _ _ ht hz1
   rw[ZeL]at hA
   have hl2:(l++[x]).length=l.length+1:=by simp
   obtain⟨xi,xo⟩:=x
   have hs2:l.flatMap ZhS++[.view xi.length 1 (Zi .i64 xi),.view xo.length 1 (Zi .i64 xo)]=(l++([⟨xi,xo⟩]:List Zig)).flatMap ZhS:=(Zck (f:=ZhS) l (⟨xi,xo⟩:Zig)).symm
   (try unfold ZhS at hone)
   have nx:=aI @e1 (aI @d1 (aI @hcut trivial))
   refine' Zp
   all_goals first
    |exact⟨n,by omega,n,q,l++[⟨xi,xo⟩],by rw[ZEr,hl2,<- hs2];rfl,ht2,by rw[hl2];omega,hA,rfl⟩
end
section
theorem ZDD (h:47<Tryz.prog.types.size):(Tryz.prog.types[47]'h).bytes=40:=by kernel_rfl
def ZjF:Zjy->List V
 |⟨xm,xn,xt⟩=>[.str xm,.str xn,.int .i64 xt]
theorem ZfN (x:Zjy):(ZjF x).length=3:=rfl
def ZEs (pn:Nat->Option BI)(f1:FuncId)(b:List Int)(en:Nat)(t:Int)(l:List Zjy)(n:Nat):St:={ n:=22,slots:=[(0,.ptr 0 0),(2,.fn f1 [.ptr 0 0]),(7,.ref 7 0 l.length 3),(8,.int .i64 (n:Int))],mem:=[(0,⟨false,[.view b.length 1 (Zi .u8 b),.int .i64 t,.int .i64 en]⟩),(7,⟨true,l.flatMap ZjF⟩)],lent:=[(0,pn 0)] }
theorem ZBr.NM:type_of% @MB.NM/\type_of% @ZEs.eq_1:=
 ⟨MB.NM,@ZEs.eq_1⟩
open ZBr
theorem ZyM.sd {p:Prop}(h:p:=by first|exact Zxx):p:=h
open ZyM ZeD Zfh ZeE in
theorem ZvM {b:List Int}{p:Int}{en:Nat}(h:okT b p en)(most:Int)(hm:most<=100000){f1:FuncId}(hcb:Za Tryz.prog f1=true){one:Int->Res Zjy}
 (hone: ∀t,okT b t en->AMP Tryz.prog f1 [.ptr 0 0] (tpM 0 b t en) [0] (OKR (one t) (fun x=> .agg (ZjF x)) b en) (ERR (one t) b en))
 (hmv: ∀t a q,okT b t en->one t= .ok (a,q)->okT b q en) :
 AMP Tryz.prog 80 [.ptr 0 0,.int .i64 most,.fn f1 [.ptr 0 0]] (tpM 0 b p en) [0] (OKR (Z3 (b.take en) most one p) (fun l=> .view l.length 3 (l.flatMap ZjF)) b en) (ERR (Z3 (b.take en) most one p) b en):=by
 have hcount:=Zby h most
 have hcm:=fun n q=>ZcE h (most:=most) (n:=n) (t:=q)
 obtain⟨A,hA⟩: ∃A,Z3 (b.take en) most one p=A:=⟨_,rfl⟩
 rw[hA]
 unfold Z3 at hA
 unfold TF OKR ERR tpM at hcount
 unfold OKR ERR tpM at hone
 unfold OKR ERR tpM
 rcases hz:Zh5 (b.take en) most p with⟨e,q⟩|⟨n,q⟩
 all_goals
  rw[hz]at hA hcount hcm
  simp only[Zk,Zn]at hA hcount
  refine AMP.enter Tryz.func80 rfl (Yaa rfl) (fun pn=> ?_)
  simp only[Tryz.f80]
 ·subst hA
  have nx:=trivial
  refine' Zp
  all_goals first|exact⟨trivial,trivial⟩|exact⟨rfl,trivial⟩|exact⟨rfl,rfl⟩|exact⟨trivial,rfl⟩|(exfalso;omega)|trace_state
 obtain⟨h2,h3,h4⟩:=hcm _ _ rfl
 obtain⟨n0,rfl⟩: ∃n0:Nat,n=n0:=⟨n.toNat,by omega⟩
 have hA:bnd (Zda one n0 q) (fun r t=> .ok ([]++r,t))=A:=by rw[<- hA,Yap];exact ZeK _
 have hn0:n0<=100000:=by omega
 clear hcm hz h4
 have nx:=trivial
 refine' Zp
 refine AW.loop [0,2,7,8] [0,7] (fun m st=> ∃(n:Nat) (t:Int) (l:List Zjy),st=ZEs pn f1 b en t l n/\okT b t en/\l.length+n=n0/\bnd (Zda one n t) (fun r t=> .ok (l++r,t))=A/\n=m) ?_ ?_
 ·exact⟨_,n0,q,[],rfl,h2,by simp,hA,rfl⟩
 rintro m st ⟨n,t,l,rfl,ht,hln,hA,rfl⟩
 clear hcount
 rcases n with _|n
 ·rw[Zda]at hA
  simp only[Zk,List.append_nil]at hA
  subst hA
  have hcut:List.take (l.length*3) (l.flatMap ZjF)=l.flatMap ZjF:=Yad (by rw[ZaQ ZfN];omega)
  have nx:=aI @hcut trivial
  refine' Zp
  all_goals first|exact⟨trivial,trivial⟩|exact⟨rfl,trivial⟩|exact⟨rfl,rfl⟩|exact⟨trivial,rfl⟩|(exfalso;omega)|trace_state
 ·have hone:=hone t ht
  have hmv:=hmv t
  have e1:IntKind.i64.wrap (((n+1:Nat):Int)-1)=(n:Int):=by rw[Zc _ (by omega) (by omega)];omega
  have d1:decide (((n+1:Nat):Int)>0)=true:=Yae (by omega)
  have hcut:List.take (l.length*3) (l.flatMap ZjF)=l.flatMap ZjF:=Yad (by rw[ZaQ ZfN];omega)
  rw[Zda]at hA
  rcases hz1:one t with⟨e,q⟩|⟨x,q⟩
  all_goals
   rw[hz1]at hA hone
   simp only[Zk,Zn]at hA hone
  ·subst hA
   have nx:=aI @e1 (aI @d1 (aI @hcut trivial))
   refine' Zp
   all_goals first|exact⟨trivial,trivial⟩|exact⟨rfl,trivial⟩|exact⟨rfl,rfl⟩|exact⟨trivial,rfl⟩|(exfalso;omega)|trace_state
  ·have ht2:=hmv _ _ ht hz1
   rw[ZeL]at hA
   have hl2:(l++[x]).length=l.length+1:=by simp
   obtain⟨xm,xn,xt⟩:=x
   have hs2:l.flatMap ZjF++[.str xm,.str xn,.int .i64 xt]=(l++([⟨xm,xn,xt⟩]:List Zjy)).flatMap ZjF:=(Zck (f:=ZjF) l (⟨xm,xn,xt⟩:Zjy)).symm
   (try unfold ZjF at hone)
   have nx:=aI @e1 (aI @d1 (aI @hcut trivial))
   refine' Zp
   all_goals first
    |exact⟨n,by omega,n,q,l++[⟨xm,xn,xt⟩],by rw[ZEs,hl2,<- hs2];rfl,ht2,by rw[hl2];omega,hA,rfl⟩
end
section
def Zsn:Int->List V
 |x=>[.int .i64 x]
theorem ZqJ (x:Int):(Zsn x).length=1:=rfl
def ZEt (pn:Nat->Option BI)(f1:FuncId)(b:List Int)(en:Nat)(t:Int)(l:List Int)(n:Nat):St:={ n:=22,slots:=[(0,.ptr 0 0),(2,.fn f1 [.ptr 0 0]),(7,.ref 7 0 l.length 1),(8,.int .i64 (n:Int))],mem:=[(0,⟨false,[.view b.length 1 (Zi .u8 b),.int .i64 t,.int .i64 en]⟩),(7,⟨true,l.flatMap Zsn⟩)],lent:=[(0,pn 0)] }
theorem ZBs.NM:type_of% @MB.NM/\type_of% @ZEt.eq_1:=
 ⟨MB.NM,@ZEt.eq_1⟩
open ZBs
open ZeD Zfh ZeE Zm in
theorem Zhb {b:List Int}{p:Int}{en:Nat}(h:okT b p en)(most:Int)(hm:most<=100000){f1:FuncId}(hcb:Za Tryz.prog f1=true){one:Int->Res Int}
 (hone: ∀t,okT b t en->AMP Tryz.prog f1 [.ptr 0 0] (tpM 0 b t en) [0] (OKR (one t) (fun x=> .int .i64 x) b en) (ERR (one t) b en))
 (hmv: ∀t a q,okT b t en->one t= .ok (a,q)->okT b q en) :
 AMP Tryz.prog 82 [.ptr 0 0,.int .i64 most,.fn f1 [.ptr 0 0]] (tpM 0 b p en) [0] (OKR (Z3 (b.take en) most one p) (fun l=> .view l.length 1 (l.flatMap Zsn)) b en) (ERR (Z3 (b.take en) most one p) b en):=by
 have hcount:=Zby h most
 have hcm:=fun n q=>ZcE h (most:=most) (n:=n) (t:=q)
 obtain⟨A,hA⟩: ∃A,Z3 (b.take en) most one p=A:=⟨_,rfl⟩
 rw[hA]
 unfold Z3 at hA
 unfold TF OKR ERR tpM at hcount
 unfold OKR ERR tpM at hone
 unfold OKR ERR tpM
 rcases hz:Zh5 (b.take en) most p with⟨e,q⟩|⟨n,q⟩
 all_goals
  rw[hz]at hA hcount hcm
  simp only[Zk,Zn]at hA hcount
  refine AMP.enter Tryz.func82 rfl (Yaa rfl) (fun pn=> ?_)
  simp only[Tryz.f82]
 ·subst hA
  have nx:=trivial
  refine' Zp
  all_goals first|exact⟨trivial,trivial⟩|exact⟨rfl,trivial⟩|exact⟨rfl,rfl⟩|exact⟨trivial,rfl⟩|(exfalso;omega)|trace_state
 obtain⟨h2,h3,h4⟩:=hcm _ _ rfl
 obtain⟨n0,rfl⟩: ∃n0:Nat,n=n0:=⟨n.toNat,by omega⟩
 have hA:bnd (Zda one n0 q) (fun r t=> .ok ([]++r,t))=A:=by rw[<- hA,Yap];exact ZeK _
 have hn0:n0<=100000:=by omega
 clear hcm hz h4
 have nx:=trivial
 refine' Zp
 refine AW.loop [0,2,7,8] [0,7] (fun m st=> ∃(n:Nat) (t:Int) (l:List Int),st=ZEt pn f1 b en t l n/\okT b t en/\l.length+n=n0/\bnd (Zda one n t) (fun r t=> .ok (l++r,t))=A/\n=m) ?_ ?_
 ·exact⟨_,n0,q,[],rfl,h2,by simp,hA,rfl⟩
 rintro m st ⟨n,t,l,rfl,ht,hln,hA,rfl⟩
 clear hcount
 rcases n with _|n
 ·rw[Zda]at hA
  simp only[Zk,List.append_nil]at hA
  subst hA
  have hcut:List.take (l.length) (l.flatMap Zsn)=l.flatMap Zsn:=Yad (by rw[ZaQ ZqJ];omega)
  have nx:=aI @hcut trivial
  refine' Zp
  all_goals first|exact⟨trivial,trivial⟩|exact⟨rfl,trivial⟩|exact⟨rfl,rfl⟩|exact⟨trivial,rfl⟩|(exfalso;omega)|trace_state
 ·have hone:=hone t ht
  have hmv:=hmv t
  have e1:IntKind.i64.wrap (((n+1:Nat):Int)-1)=(n:Int):=by rw[Zc _ (by omega) (by omega)];omega
  have d1:decide (((n+1:Nat):Int)>0)=true:=Yae (by omega)
  have hcut:List.take (l.length) (l.flatMap Zsn)=l.flatMap Zsn:=Yad (by rw[ZaQ ZqJ];omega)
  rw[Zda]at hA
  rcases hz1:one t with⟨e,q⟩|⟨x,q⟩
  all_goals
   rw[hz1]at hA hone
   simp only[Zk,Zn]at hA hone
  ·subst hA
   have nx:=aI @e1 (aI @d1 (aI @hcut trivial))
   refine' Zp
   all_goals first|exact⟨trivial,trivial⟩|exact⟨rfl,trivial⟩|exact⟨rfl,rfl⟩|exact⟨trivial,rfl⟩|(exfalso;omega)|trace_state
  ·have ht2:=hmv _ _ ht hz1
   rw[ZeL]at hA
   have hl2:(l++[x]).length=l.length+1:=by simp
   obtain x:=x
   have hs2:l.flatMap Zsn++[.int .i64 x]=(l++([x]:List Int)).flatMap Zsn:=(Zck (f:=Zsn) l (x:Int)).symm
   (try unfold Zsn at hone)
   have nx:=aI @e1 (aI @d1 (aI @hcut trivial))
   refine' Zp
   all_goals first
    |exact⟨n,by omega,n,q,l++[x],by rw[ZEt,hl2,<- hs2];rfl,ht2,by rw[hl2];omega,hA,rfl⟩
end
end Go.Proofs.YtimhmpdfioihlaaGreatDoor
