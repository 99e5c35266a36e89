/- fields: those without a loop. -/
import Derived.Test.YtimhmpdfioihlaaGreatDoorDP
import Derived.Test.YtimhmpdfioihlaaGreatDoorGPreV
import Derived.Test.YtimhmpdfioihlaaGreatDoorGV6
import Derived.Test.YtimhmpdfioihlaaGreatDoorGCB
import Derived.Test.YtimhmpdfioihlaaGreatDoorGMT5
import Derived.Test.YtimhmpdfioihlaaGreatDoorGRefpre
import Derived.Test.YtimhmpdfioihlaaGreatDoorGMT1
import Derived.Test.YtimhmpdfioihlaaGreatDoorGWP
set_option linter.unusedSimpArgs false
set_option linter.unusedVariables false
set_option maxHeartbeats 12800000
namespace Go.Proofs.YtimhmpdfioihlaaGreatDoor
set_option maxRecDepth 20000
open Go Go.Abs Nat
attribute [local irreducible] AW AWL AC FW CW CWr IntKind.wrap
section
def inM (k kl:Nat)(i:Ins):Mem:=[(k,⟨false,[.int .i64 i.op,.int .i64 i.a,.int .i64 i.b,.int .u64 i.lo,.int .u64 i.hi,.ref kl 0 i.l.length 1]⟩),(kl,⟨true,Zi .i64 i.l⟩)]
theorem ZqC {b:List Int}{r:Rd}(h:r.err≠0):Zay b r=(0,r):=if_pos h
open MB
theorem ZDb.cl {p:Prop}(h:p:=by
 first
  |refine AWL.cM (f:=155) [(0,0),(1002,1002)] ZkS rfl rfl rfl rfl rfl rfl rfl (hfl) ?_
  |refine AWL.cM (f:=170) [(0,0),(1002,1002)] ZES rfl rfl rfl rfl rfl rfl rfl (hkd) ?_
  |refine AWL.cM (f:=154) [(0,0),(1002,1002)] Zw4 rfl rfl rfl rfl rfl rfl rfl (hn1) ?_
  |refine AWL.cM (f:=154) [(0,0),(1002,1002)] Zw4 rfl rfl rfl rfl rfl rfl rfl (hn2) ?_
  |refine AWL.cM (f:=153) [(0,0),(1002,1002)] Zw3 rfl rfl rfl rfl rfl rfl rfl (hby) ?_
  |refine AWL.cM (f:=171) [(0,0),(1002,1002)] ZCv rfl rfl rfl rfl rfl rfl rfl (hsg) ?_
 all_goals(apply_rules (newGoals:= .nonDependentOnly) only[dep];exact())):p:=h
open ZDb ZoD Zm in
theorem Znn (b:List Int)(hb:bytes b)(hlen:b.length<=1000000000)(r:Rd)(hr:ZcB b r)(form:Int)(h4:form≠4)(h11:form≠11)(h12:form≠12)(i:Ins) :
 AM Tryz.prog 157 [.ptr 0 0,.ptr 1 0,.int .i64 form] (rdM 0 1002 b r++inM 1 2005 i) [0,1] (fun v m=>v= .tup []/\m=rdM 0 1002 b (Zv b form r i).2++inM 1 2005 (Zv b form r i).1):=by
 obtain⟨io,ia,ib,il,ih,ill⟩:=i
 have hfl:True:=trivial
 have hkd:True:=trivial
 have hn1:True:=trivial
 have hn2:True:=trivial
 have hby:True:=trivial
 have hsg:True:=trivial
 have hcs:form=2\/form=3\/form=5\/form=6\/form=7\/form=8\/form=9\/form=10\/form=13\/form=14\/(form≠2/\form≠3/\form≠5/\form≠6/\form≠7/\form≠8/\form≠9/\form≠10/\form≠13/\form≠14):=by omega
 obtain⟨A,hA⟩: ∃A,Zv b form r ⟨io,ia,ib,il,ih,ill⟩=A:=⟨_,rfl⟩
 rw[hA]
 unfold Zv at hA
 rcases hcs with rfl|rfl|rfl|rfl|rfl|rfl|rfl|rfl|rfl|rfl|⟨g1,g2,g3,g4,g5,g6,g7,g8,g9,g10⟩
 case' inl=>
  rw[if_pos rfl]at hA
  have hkd:=Zvd b hb hlen r hr
  generalize ZfY b r=z at hA hkd
  obtain⟨n,r1⟩:=z
  have ew:True:=trivial
  have ez:True:=trivial
 case' inr.inl=>
  rw[if_neg (by decide),if_pos (by decide)]at hA
  have hn1:=ZbX b hb hlen r hr
  generalize Zay b r=z at hA hn1
  obtain⟨n,r1⟩:=z
  have ew:True:=trivial
  have ez:True:=trivial
 case' inr.inr.inl=>
  rw[if_neg (by decide),if_pos (by decide)]at hA
  have hn1:=ZbX b hb hlen r hr
  generalize Zay b r=z at hA hn1
  obtain⟨n,r1⟩:=z
  have ew:True:=trivial
  have ez:True:=trivial
 case' inr.inr.inr.inl=>
  rw[if_neg (by decide),if_neg (by decide),if_neg (by decide),if_pos (by decide)]at hA
  have hn1:=ZbX b hb hlen r hr
  have hr1:=(Zfm hb hr).1
  generalize Zay b r=z at hA hn1 hr1
  obtain⟨n,r1⟩:=z
  have hn2:=ZbX b hb hlen r1 hr1
  have ew:True:=trivial
  have ez:True:=trivial
 case' inr.inr.inr.inr.inl=>
  rw[if_neg (by decide),if_neg (by decide),if_neg (by decide),if_pos (by decide)]at hA
  have hn1:=ZbX b hb hlen r hr
  have hr1:=(Zfm hb hr).1
  generalize Zay b r=z at hA hn1 hr1
  obtain⟨n,r1⟩:=z
  have hn2:=ZbX b hb hlen r1 hr1
  have ew:True:=trivial
  have ez:True:=trivial
 case' inr.inr.inr.inr.inr.inl=>
  rw[if_neg (by decide),if_neg (by decide),if_neg (by decide),if_neg (by decide),if_pos (by decide)]at hA
  have hn1:=ZbX b hb hlen r hr
  have hr1:=(Zfm hb hr).1
  generalize Zay b r=z at hA hn1 hr1
  obtain⟨n,r1⟩:=z
  have hn2:=ZbX b hb hlen r1 hr1
  have hr2:=(Zfm hb hr1).1
  simp only at hA
  generalize Zay b r1=z2 at hA hn2 hr2
  obtain⟨n2,r2⟩:=z2
  have hby:=Zfn b hb hlen r2 hr2
  have hx:=ZfI hb hr2
  simp only at hA
  generalize Zal b r2=z3 at hA hby hx
  obtain⟨n3,r3⟩:=z3
  have ew:IntKind.u64.wrap n3=n3:=Zb0 rfl hx.1 (by have:=hx.2;show _<(18446744073709551616:Int);simp only at this ⊢;omega)
  have ez:True:=trivial
 case' inr.inr.inr.inr.inr.inr.inl=>
  rw[if_neg (by decide),if_neg (by decide),if_neg (by decide),if_neg (by decide),if_neg (by decide),if_pos (by decide)]at hA
  have hsg:=Zlm b hb hlen 32 r
  generalize ZfH b 32 r=z at hA hsg
  obtain⟨n,r1⟩:=z
  have ew:IntKind.u32.wrap n=n%4294967296:=Zj (k:= .u32) rfl _
  have ez:IntKind.u64.wrap (n%4294967296)=n%4294967296:=Zb0 rfl (by omega) (by show _<(18446744073709551616:Int);omega)
 case' inr.inr.inr.inr.inr.inr.inr.inl=>
  rw[if_neg (by decide),if_neg (by decide),if_neg (by decide),if_neg (by decide),if_neg (by decide),if_neg (by decide),if_pos (by decide)]at hA
  have hsg:=Zlm b hb hlen 64 r
  generalize ZfH b 64 r=z at hA hsg
  obtain⟨n,r1⟩:=z
  have ew:IntKind.u64.wrap n=n%18446744073709551616:=Zj (k:= .u64) rfl _
  have ez:True:=trivial
 case' inr.inr.inr.inr.inr.inr.inr.inr.inl=>
  rw[if_neg (by decide),if_neg (by decide),if_neg (by decide),if_neg (by decide),if_neg (by decide),if_neg (by decide),if_neg (by decide),if_neg (by decide),if_pos (by decide)]at hA
  have hby:=Zfn b hb hlen r hr
  generalize Zal b r=z at hA hby
  obtain⟨n,r1⟩:=z
  have ew:True:=trivial
  have ez:True:=trivial
 case' inr.inr.inr.inr.inr.inr.inr.inr.inr.inl=>
  rw[if_neg (by decide),if_neg (by decide),if_neg (by decide),if_neg (by decide),if_neg (by decide),if_neg (by decide),if_neg (by decide),if_neg (by decide),if_neg (by decide),if_pos (by decide)]at hA
  have hby:=Zfn b hb hlen r hr
  generalize Zal b r=z at hA hby
  obtain⟨n,r1⟩:=z
  have hfl:=Za9 b r1 10
  simp only at hA
  generalize Zah r1 10=r2 at hA hfl
  have ew:True:=trivial
  have ez:True:=trivial
  by_cases hn0:n=0
  case' pos=>rw[if_neg (fun h=>h hn0)]at hA
  case' neg=>rw[if_pos hn0]at hA
 case' inr.inr.inr.inr.inr.inr.inr.inr.inr.inr=>
  rw[if_neg g1,if_neg (by omega),if_neg h4,if_neg (by omega),if_neg g6,if_neg g7,if_neg g8,if_neg (by omega),if_neg g9,if_neg g10]at hA
  have ew:True:=trivial
  have ez:True:=trivial
 all_goals
  subst hA
  unfold rdM inM at *
  refine AM.enter Tryz.func157 rfl (Yaa rfl) (fun pn=> ?_)
  simp only[Tryz.f157]
  have nx:=aI @ew (aI @ez trivial)
  refine' Zyd
  all_goals first|exact⟨trivial,trivial⟩|exact⟨rfl,trivial⟩|exact⟨rfl,rfl⟩|exact⟨trivial,rfl⟩|(exfalso;omega)|trace_state
end
section
def TB (pn:Nat->Option BI)(b:List Int)(r:Rd)(io ia ib il ih:Int)(l:List Int)(k:Nat):St:={ n:=134,slots:=[(0,.ptr 0 0),(1,.ptr 1 0),(6,.int .i64 (k:Int))],mem:=[(0,⟨false,[.view b.length 1 (Zi .u8 b),.int .i64 r.pos,.ref 1002 0 r.op.length 1,.int .i64 r.err]⟩),(1002,⟨true,Zi .i64 (r.op++r.jk)⟩),(1,⟨false,[.int .i64 io,.int .i64 ia,.int .i64 ib,.int .u64 il,.int .u64 ih,.ref 2005 0 l.length 1]⟩),(2005,⟨true,Zi .i64 l⟩)],lent:=[(0,pn 0),(1002,none),(1,pn 1),(2005,none)] }
def TB7 (pn:Nat->Option BI)(b:List Int)(r:Rd)(io ia ib il ih:Int)(l:List Int)(k:Nat)(x:Int):St:={ n:=134,slots:=[(0,.ptr 0 0),(1,.ptr 1 0),(6,.int .i64 (k:Int)),(41,.ptr 1 0),(45,.ref 2005 0 l.length 1),(48,.ref 48 0 1 1)],mem:=[(0,⟨false,[.view b.length 1 (Zi .u8 b),.int .i64 r.pos,.ref 1002 0 r.op.length 1,.int .i64 r.err]⟩),(1002,⟨true,Zi .i64 (r.op++r.jk)⟩),(1,⟨false,[.int .i64 io,.int .i64 ia,.int .i64 ib,.int .u64 il,.int .u64 ih,.ref 2005 0 l.length 1]⟩),(2005,⟨true,Zi .i64 l⟩),(48,⟨true,Zi .i64 [x]⟩)],lent:=[(0,pn 0),(1002,none),(1,pn 1),(2005,none)] }
def TR (pn:Nat->Option BI)(b:List Int)(r:Rd)(io ia ib il ih:Int)(l v:List Int)(k:Nat):St:={ n:=134,slots:=[(0,.ptr 0 0),(1,.ptr 1 0),(7,.ptr 7 0),(99,.int .i64 (k:Int))],mem:=[(0,⟨false,[.view b.length 1 (Zi .u8 b),.int .i64 r.pos,.ref 1002 0 r.op.length 1,.int .i64 r.err]⟩),(1002,⟨true,Zi .i64 (r.op++r.jk)⟩),(1,⟨false,[.int .i64 io,.int .i64 ia,.int .i64 ib,.int .u64 il,.int .u64 ih,.ref 2005 0 l.length 1]⟩),(2005,⟨true,Zi .i64 l⟩),(7,⟨true,Zi .u8 v⟩)],lent:=[(0,pn 0),(1002,none),(1,pn 1),(2005,none)] }
theorem ZyC {b:List Int}(hb:bytes b){r:Rd}(h:ZcB b r)(he:r.err=0):r.pos+(if(Zay b r).2.err=0 then 1 else 0)<=(Zay b r).2.pos:=by
 by_cases c:(Zbg b r.pos 32).2.2=0
 ·have e:Zay b r=((Zbg b r.pos 32).1,{ r with pos:=(Zbg b r.pos 32).2.1 }):=by unfold Zay;rw[if_neg (fun h=>h he),if_neg (fun h=>h c)]
  have:=ZcK hb ⟨h.p0,h.p1⟩ c
  rw[e];simp only
  split<;>omega
 ·have e:Zay b r=(0,Zah r 10):=by unfold Zay;rw[if_neg (fun h=>h he),if_pos c]
  have e2:Zah r 10={ r with err:=10 }:=if_pos he
  rw[e,e2];simp
theorem ZDc.NM:type_of% @MB.NM/\type_of% @Zdn/\type_of% @TB.eq_1/\type_of% @TB7.eq_1/\type_of% @TR.eq_1:=
 ⟨MB.NM,@Zdn,@TB.eq_1,@TB7.eq_1,@TR.eq_1⟩
open ZDc
theorem Zlp {p:Prop}(h:p:=by
 repeat' (first
  |((with_reducible show AW _ _ _ _);first|((first|refine AW.seqA ?_|refine AW.blockA ?_);intro Qn hQn hPn))
  |((with_reducible show AWL _ _ _ _ _);refine AWL.lentD rfl rfl ?_;(try refine' Zf))
  |((with_reducible first|show AWL _ _ _ _ _|show AW _ _ _ _);(first|refine AWL.nil ?_|refine AW.skip ?_|refine AW.ret ?_|refine AW.exit ?_);(repeat (first|refine QEq.mp (by assumption) ?_|simp only[Zbd,Go.Abs.blockQ,↓reduceIte,Nat.reduceEqDiff])))
  |((first
   |((with_reducible show AWL _ _ _ _ _);first|refine AWL.opN (sl:=SL) rfl rfl rfl trivial ?_|(refine AWL.allocF (t:=185) rfl rfl rfl rfl rfl rfl ?_)|(refine AWL.op (sl:=SL) rfl rfl ?_ ?_)|(refine AWL.ptrNil rfl rfl rfl rfl rfl rfl (by kernel_rfl) ?_)|(refine AWL.sliceNil rfl rfl rfl rfl rfl (by kernel_rfl) ?_ ?_;(focus (first|exact trivial|exact Zi8));(intro r hr;cases r<;>first|(have hr:=hr rfl)|(clear hr)))|(refine AWL.guard2 rfl rfl rfl rfl rfl rfl ?_ ?_<;>(intro hc;(try simp only[Bool.not_true,Bool.not_false]at hc);first|(cases hc;done)|((try simp only[hc]);(try simp only[HCX]at hc);(try(exfalso;omega));(try(guard_hyp hc:True;clear hc)))))|refine AWL.guardU rfl rfl rfl rfl rfl rfl ?_|refine' cl)
   |((with_reducible show AW _ _ _ _);first|((show AW _ (.region _ _ false) _ _);refine kp ?_;refine AW.region ?_))
   |((with_reducible show AT _ _ _ _ _ _);refine' att2))<;>(try((first|with_reducible (first|show AWL _ _ _ _ _|show AW _ _ _ _|show DQ _ _ _ _ _ _)|(rintro _ _ ⟨rfl,rfl⟩;(try refine And.intro (by kernel_rfl) ?_)));(try refine' Zf))))
  |((with_reducible show AW _ _ _ _);first|(refine AW.cond rfl (fun hc=> ?_) (fun hc=> ?_)<;>first|(cases hc;done)|((try simp only[HCX]at hc);(try(exfalso;omega));(try(guard_hyp hc:True;clear hc)))))
  |((with_reducible show True);exact trivial)|((with_reducible show ATQ _ _ _ _);show AT _ _ _ _ _ _)
  |((refine ZjX.mk [0,1002,1,2005] rfl rfl rfl rfl ?_ ?_ ?_ ?_;(focus (first|exact Or.inl rfl|exact Or.inr rfl));(focus (repeat (first|exact List.forall_mem_nil _|refine Ya5.2 ⟨rfl,?_⟩))))<;>(try simp(disch:=omega) only[NM,Nat.reduceBEq,reduceAdd,reduceMul,Int.reduceToNat,reduceSub,List.set_cons_zero,List.set_cons_succ,nx]))
  |exact sd
  |fail)
 all_goals(try clear nx)
 all_goals(apply_rules (newGoals:= .nonDependentOnly) only[dep];exact())):p:=h
theorem Zlq.cl {p:Prop}(h:p:=by
 first
  |refine AWL.cM (f:=154) [(0,0),(1002,1002)] Zw4 rfl rfl rfl rfl rfl rfl rfl (hn1) ?_
  |refine AWL.cM (f:=153) [(0,0),(1002,1002)] Zw3 rfl rfl rfl rfl rfl rfl rfl (hby) ?_
  |refine AWL.frzG rfl rfl rfl ?_
  |refine AWL.cC (f:=172) ZCw rfl rfl rfl rfl rfl rfl (hsp) ?_
 all_goals(apply_rules (newGoals:= .nonDependentOnly) only[dep];exact())):p:=h
theorem Zlq.att {p:Prop}(h:p:=by
 first
  |(first|refine AT.step (L:=(bA 12 255)) [8] (by decide +kernel) (by decide) (Zr ⟨_,(bA 12 511),rfl,(by decide +kernel),?_⟩)|(refine AT.takeN (L:=(bA 12 511)) (L':=(bA 12 1023)) 9 rfl rfl rfl rfl rfl rfl Zbt (by decide +kernel) (by decide +kernel) ?_;(try refine' Zf))|(refine AT.takeF (L:=(bA 12 1023)) (L':=(bA 12 2047)) 10 rfl rfl rfl rfl rfl rfl rfl rfl Zbt (by decide +kernel) (by decide +kernel) ?_;(try refine' Zf))|refine AT.step (L:=(bA 12 2047)) [11] (by decide +kernel) (by decide) (Zr ⟨_,(bA 12 4095),rfl,(by decide +kernel),?_⟩)|refine AT.done (L:=(bA 12 4095)) (by decide +kernel) ?_)
 all_goals(apply_rules (newGoals:= .nonDependentOnly) only[dep];exact())):p:=h
theorem Zlq.att2 {p:Prop}(h:p:=by
 first
  |(first|(refine AT.takeM (L:=(bA 12 0)) (L':=(bA 12 1)) 0 rfl rfl rfl rfl rfl Zbt (by decide +kernel) (by decide +kernel) ?_;(try refine' Zf))|(refine AT.takeM (L:=(bA 12 1)) (L':=(bA 12 3)) 1 rfl rfl rfl rfl rfl Zbt (by decide +kernel) (by decide +kernel) ?_;(try refine' Zf))|(refine AT.takeN (L:=(bA 12 3)) (L':=(bA 12 7)) 2 rfl rfl rfl rfl rfl rfl Zbt (by decide +kernel) (by decide +kernel) ?_;(try refine' Zf))|(refine AT.takeF (L:=(bA 12 7)) (L':=(bA 12 15)) 3 rfl rfl rfl rfl rfl rfl rfl rfl Zbt (by decide +kernel) (by decide +kernel) ?_;(try refine' Zf))|(refine AT.takeM (L:=(bA 12 15)) (L':=(bA 12 47)) 5 rfl rfl rfl rfl rfl Zbt (by decide +kernel) (by decide +kernel) ?_;(try refine' Zf))|refine AT.step (L:=(bA 12 47)) [4,6] (by decide +kernel) (by decide) (Z8 ⟨_,(bA 12 63),rfl,(by decide +kernel),?_⟩ ⟨_,(bA 12 111),rfl,(by decide +kernel),?_⟩)|refine AT.step (L:=(bA 12 111)) [4,7] (by decide +kernel) (by decide) (Z8 ⟨_,(bA 12 127),rfl,(by decide +kernel),?_⟩ ⟨_,(bA 12 239),rfl,(by decide +kernel),?_⟩)|refine AT.step (L:=(bA 12 239)) [4] (by decide +kernel) (by decide) (Zr ⟨_,(bA 12 255),rfl,(by decide +kernel),?_⟩)|refine AT.step (L:=(bA 12 127)) [7] (by decide +kernel) (by decide) (Zr ⟨_,(bA 12 255),rfl,(by decide +kernel),?_⟩)|refine AT.step (L:=(bA 12 63)) [6] (by decide +kernel) (by decide) (Zr ⟨_,(bA 12 127),rfl,(by decide +kernel),?_⟩))
 all_goals(apply_rules (newGoals:= .nonDependentOnly) only[dep];exact())):p:=h
theorem Zlq.sd {p:Prop}(h:p:=by first|exact Zp9|exact Zxp):p:=h
open Zlq ZoD in
theorem Zno (b:List Int)(hb:bytes b)(hlen:b.length<=1000000000)(r:Rd)(hr:ZcB b r)(i:Ins)(hil:i.l=[]) :
 AM Tryz.prog 157 [.ptr 0 0,.ptr 1 0,.int .i64 4] (rdM 0 1002 b r++inM 1 2005 i) [0,1] (fun v m=>v= .tup []/\m=rdM 0 1002 b (Zv b 4 r i).2++inM 1 2005 (Zv b 4 r i).1):=by
 obtain⟨io,ia,ib,il,ih,ill⟩:=i
 simp only at hil
 subst hil
 obtain⟨A,hA⟩: ∃A,Zv b 4 r ⟨io,ia,ib,il,ih,[]⟩=A:=⟨_,rfl⟩
 rw[hA]
 unfold Zv at hA
 rw[if_neg (by decide),if_neg (by decide),if_pos rfl]at hA
 have hn1:=ZbX b hb hlen r hr
 have hr1:=Zfm hb hr
 generalize Zay b r=z at hA hn1 hr1
 obtain⟨n,r1⟩:=z
 simp only at hA hr1
 obtain⟨hr1,hn0,hnb⟩:=hr1
 obtain⟨N,rfl⟩: ∃N:Nat,n=N:=⟨n.toNat,by omega⟩
 rw[Yap]at hA
 unfold rdM inM at *
 refine AM.enter Tryz.func157 rfl (Yaa rfl) (fun pn=> ?_)
 simp only[Tryz.f157]
 have nx:=aI @List.length_nil.{0} trivial
 refine' ZfA
 refine AW.loop [0,1,6] [0,1002,1,2005] (fun m st=> ∃(k:Nat) (r':Rd) (l:List Int),st=TB pn b r' io ia ib il ih l k/\ZcB b r'/\Zie b N r1 []=Zie b k r' l/\l.length<=r'.pos+(if r'.err=0 then 0 else 1)/\k=m/\k<=N) ?_ ?_
 ·exact⟨_,N,r1,[],rfl,hr1,rfl,by have:=hr1.p0;show((0:Nat):Int)<=_;split<;>omega,rfl,Nat.le_refl _⟩
 rintro m st ⟨k,r',l,rfl,hr',ht,hll,rfl,hkN⟩
 have hp1:=hr'.p1
 have hl2:l.length<=1000000001:=by split at hll<;>omega
 by_cases hgo:0<k/\r'.err=0
 ·obtain⟨hk,he⟩:=hgo
  obtain⟨p',o',j',e'⟩:=r'
  obtain rfl:e'=0:=he
  obtain⟨k',rfl⟩: ∃k',k=k'+1:=⟨k-1,by omega⟩
  have e5:IntKind.i64.wrap (((k'+1:Nat):Int)-1)=(k':Int):=by rw[Zc _ (by omega) (by omega)];omega
  have hn1:=ZbX b hb hlen _ hr'
  have hr2:=(Zfm hb hr').1
  have hps:=ZyC hb hr' rfl
  rw[Zie,if_pos rfl]at ht
  rw[if_pos rfl]at hll
  have hll2:(l.length:Int)<=p'+0:=hll
  have hps2:p'+(if(Zay b ⟨p',o',j',0⟩).2.err=0 then 1 else 0)<=(Zay b ⟨p',o',j',0⟩).2.pos:=hps
  clear hll hps
  unfold rdM at hn1
  generalize Zay b ⟨p',o',j',0⟩=z at hn1 hr2 hps2 ht
  obtain⟨x,r2⟩:=z
  simp only at hr2 hps2 ht
  have hla:(l++[x]).length=l.length+1:=by simp
  have hgz:(((k'+1:Nat):Int)>0):=by omega
  have nx:=trivial
  refine' ZxE
  refine AW.drawT (L0:=(bA 12 0)) (by decide +kernel) Zjo ?_
  refine AT.via (bA 12 255) 4 (TB7 pn b r2 io ia ib il ih l (k'+1) x) ?_ (fun hmid=> ?_)
  ·skip --POST
   have nx:=aI @Yau.{0} trivial
   refine' Zld
   (repeat (first|refine QEq.mp (by assumption) ?_|simp only[Zbd,Go.Abs.blockQ,↓reduceIte,Nat.reduceEqDiff]))
   have nx:=aI @e5 trivial
   refine' Zld
   all_goals first
    |exact⟨k',by omega,k',r2,l++[x],by rw[TB,hla];rfl,hr2,ht,by rw[hla];split at hps2<;>split<;>omega,rfl,by omega⟩
  have nx:=trivial
  refine' Zlp
  all_goals
   refine AT.keep [0,1,6,41,45,48] [0,1002,1,2005,48] ?_
   first
    |exact hmid
 ·have ht2:Zie b N r1 []=(l,r'):=by
   rw[ht]
   cases k with
   |zero=>rfl
   |succ k=>rw[Zie,if_neg (fun h=>hgo ⟨Nat.succ_pos _,h⟩)]
  rw[ht2]at hA
  subst hA
  have hn1:=ZbX b hb hlen r' hr'
  unfold rdM at hn1
  obtain⟨x,r2,e⟩: ∃x r2,Zay b r'=(x,r2):=⟨_,_,rfl⟩
  rw[e]at hn1
  by_cases hk:0<k
  ·have he: ¬r'.err=0:=fun h=>hgo ⟨hk,h⟩
   have nx:=trivial
   refine' ZfA
   all_goals first|exact⟨trivial,trivial⟩|exact⟨rfl,trivial⟩|exact⟨rfl,rfl⟩|exact⟨trivial,rfl⟩|(rw[e];exact⟨trivial,rfl⟩)|(exfalso;omega)|trace_state
  ·have nx:=trivial
   refine' ZfA
   all_goals first|exact⟨trivial,trivial⟩|exact⟨rfl,trivial⟩|exact⟨rfl,rfl⟩|exact⟨trivial,rfl⟩|(rw[e];exact⟨trivial,rfl⟩)|(exfalso;omega)|trace_state
end
end Go.Proofs.YtimhmpdfioihlaaGreatDoor
namespace Go.Proofs.YtimhmpdfioihlaaGreatDoor
set_option maxRecDepth 20000
open Go Go.Abs
theorem ZoP {b:List Int}(hb:bytes b){r:Rd}(h:ZcB b r)(he:r.err=0):Zay b r=if(Zav b r.pos).2<0 then(0,{ r with err:=10 })else((Zav b r.pos).1,{ r with pos:=(Zav b r.pos).2 }):=by
 by_cases c:(Zbg b r.pos 32).2.2=0
 ·have:=ZcK hb ⟨h.p0,h.p1⟩ c
  have h0:=h.p0
  have e:Zav b r.pos=((Zbg b r.pos 32).1,(Zbg b r.pos 32).2.1):=if_neg (fun h=>h c)
  rw[e,if_neg (show ¬(Zbg b r.pos 32).2.1<0 by omega)]
  unfold Zay
  rw[if_neg (fun h=>h he),if_neg (fun h=>h c)]
 ·have e:Zav b r.pos=(0, -1):=if_pos c
  rw[e,if_pos (show(-1:Int)<0 by decide)]
  unfold Zay
  rw[if_neg (fun h=>h he),if_pos c]
  unfold Zah;rw[if_pos he]
theorem Zlr {b:List Int}{op:Int}{r:Rd}(h:r.err≠0):Zd9 b op r=(⟨op,0,0,0,0,[]⟩,r):=if_neg h
theorem ZeN {r:Rd}(h:r.err≠0)(e:Int):Zah r e=r:=if_neg h
theorem Zg5 {b:List Int}{op:Int}{r:Rd}(h:r.err≠0):ZrD b op r=(⟨op,0,0,0,0,[]⟩,r):=by
 have h1:ZlW op r=r:=by unfold ZlW;split<;>first|exact ZeN h _|rfl
 have h2:ZlX op r=r:=by unfold ZlX;split<;>first|exact ZeN h _|rfl
 rw[ZeH,h1,h2,Zlr h]
 unfold Zqt;simp only
 rw[if_neg (fun c=>h c.1)]
theorem ZA2:(ZwE.all fun r=>decide (0<=r.1/\r.2.1<=65023/\1<=r.2.2.1/\r.2.2.1<=14))=true:=by decide +kernel
theorem ZhQ {op:Int}(h:(ofS op).2=true):(0<=op/\op<=65023)/\1<=(ofS op).1.1/\(ofS op).1.1<=14:=by
 unfold ofS at *
 cases hf:Zd4 op ZwE with
 |none=>rw[hf]at h;cases h
 |some r=>
  have hm:=Zm3 hf
  have:=of_decide_eq_true (Yat.1 ZA2 r hm.1)
  simp only[ZuJ]
  omega
theorem ZA3 {op:Int}(h:flS op=true):op<=65023:=by
 have:=(ZeG op).1 h;omega
structure ZGJ (b:List Int)(r:Rd)(q:Int×Int×Int):Prop where
 bad:q.2.2≠0->(ZrD b (opS b r).1 (opS b r).2).2.err=q.2.2
 good:q.2.2=0->opS b r=(q.1,{ r with pos:=q.2.1 })/\flS q.1=false/\(ofS q.1).2=true/\r.pos<q.2.1/\q.2.1<=b.length
theorem Zvf {b:List Int}{r:Rd}(he:r.err=0){op p:Int}(ho:opS b r=(op,{ r with pos:=p }))(hp:r.pos<p/\p<=b.length):ZGJ b r (ZwG op p):=by
 unfold ZwG
 by_cases hf:flS op=true
 ·rw[if_pos hf]
  refine⟨fun _=> ?_,fun h=>by cases h⟩
  rw[ho,ZeH]
  have h1:ZlW op { r with pos:=p }={ r with pos:=p,err:=11 }:=by unfold ZlW Zah;rw[if_pos hf];exact if_pos he
  have h2:ZlX op { r with pos:=p,err:=11 }={ r with pos:=p,err:=11 }:=by
   unfold ZlX;split
   ·rfl
   ·exact ZeN (by show(11:Int)≠0;decide) _
  rw[h1,h2,Zlr (by show(11:Int)≠0;decide)]
  unfold Zqt;simp only
  rw[if_neg (fun c=>absurd c.1 (by decide))]
 ·rw[if_neg hf]
  have h1:ZlW op { r with pos:=p }={ r with pos:=p }:=by unfold ZlW;rw[if_neg hf]
  by_cases ho2:(ofS op).2=true
  ·rw[if_pos ho2]
   exact⟨fun h=>absurd rfl h,fun _=>⟨ho,by simpa using hf,ho2,hp⟩⟩
  ·rw[if_neg ho2]
   refine⟨fun _=> ?_,fun h=>by cases h⟩
   have h2:ZlX op { r with pos:=p }={ r with pos:=p,err:=10 }:=by unfold ZlX Zah;rw[if_neg ho2];exact if_pos he
   rw[ho,ZeH,h1,h2,Zlr (by show(10:Int)≠0;decide)]
   unfold Zqt;simp only
   rw[if_neg (fun c=>absurd c.1 (by decide))]
theorem ZDd {b:List Int}(hb:bytes b){r:Rd}(h:ZcB b r)(he:r.err=0):ZGJ b r (Zct b r.pos):=by
 have h0:=h.p0
 have h1:=h.p1
 by_cases hp:r.pos>=b.length
 ·have hB:Zal b r=(0,{ r with err:=10 }):=by
   unfold Zal;rw[if_pos (.inr hp)]
   unfold Zah;rw[if_pos he]
  have hO:opS b r=(0,{ r with err:=10 }):=by
   unfold opS;rw[hB]
   rw[if_neg (by show ¬(0:Int)=253;decide),if_neg (by show ¬(0:Int)=252;decide)]
  rw[show Zct b r.pos=(0,0,10)from if_pos hp]
  refine⟨fun _=> ?_,fun h=>by cases h⟩
  rw[hO,Zg5 (by show(10:Int)≠0;decide)]
 ·have hB:Zal b r=(b.getD r.pos.toNat 0,{ r with pos:=r.pos+1 }):=by
   unfold Zal;rw[if_neg (fun h=>h.elim (fun h=>h he) hp)]
  have hk:ZcB b { r with pos:=r.pos+1 }:=⟨by simp only;omega,by simp only;omega⟩
  have hN:=ZoP hb hk he
  have hU:=ZhP hb (p:=r.pos+1) ⟨by omega,by omega⟩
  unfold Zct
  rw[if_neg hp]
  simp only at hN
  generalize hc:b.getD r.pos.toNat 0=c at *
  by_cases c3:c=253
  ·subst c3
   have hO:opS b r=(64768+(Zay b { r with pos:=r.pos+1 }).1,(Zay b { r with pos:=r.pos+1 }).2):=by unfold opS;rw[hB];exact if_pos rfl
   rw[if_pos (.inr rfl)]
   by_cases hn:(Zav b (r.pos+1)).2<0
   ·rw[if_pos hn]at hN ⊢
    refine⟨fun _=> ?_,fun h=>by cases h⟩
    rw[hO,hN,Zg5 (by show(10:Int)≠0;decide)]
   ·rw[if_neg hn]at hN ⊢
    rw[if_neg (fun h=>absurd h.1 (by decide))]
    rw[hN]at hO
    simp only at hO
    by_cases hbig:(Zav b (r.pos+1)).1>255
    ·rw[if_pos (.inr hbig)]
     have hk:=Zvf he hO ⟨by omega,by omega⟩
     have hf: ¬flS (64768+(Zav b (r.pos+1)).1)=true:=fun h=>by have:=ZA3 h;omega
     have ho: ¬(ofS (64768+(Zav b (r.pos+1)).1)).2=true:=fun h=>by have:=ZhQ h;omega
     unfold ZwG at hk
     rw[if_neg hf,if_neg ho]at hk
     exact hk
    ·rw[if_neg (fun h=>h.elim (by decide) hbig)]
     exact Zvf he hO ⟨by omega,by omega⟩
  ·by_cases c2:c=252
   ·subst c2
    rw[if_pos (.inl rfl)]
    have hO:opS b r=(252,Zah (if(Zay b { r with pos:=r.pos+1 }).1<=7 then Zah (Zay b { r with pos:=r.pos+1 }).2 11 else(Zay b { r with pos:=r.pos+1 }).2) 10):=by unfold opS;rw[hB];rfl
    by_cases hn:(Zav b (r.pos+1)).2<0
    ·rw[if_pos hn]at hN ⊢
     refine⟨fun _=> ?_,fun h=>by cases h⟩
     rw[hN]at hO
     simp only at hO
     rw[if_pos (by decide),ZeN (r:={ r with pos:=r.pos+1,err:=10 }) (by show(10:Int)≠0;decide),ZeN (r:={ r with pos:=r.pos+1,err:=10 }) (by show(10:Int)≠0;decide)]at hO
     rw[hO,Zg5 (by show(10:Int)≠0;decide)]
    ·rw[if_neg hn]at hN ⊢
     rw[hN]at hO
     simp only at hO
     by_cases h7:(Zav b (r.pos+1)).1<=7
     ·rw[if_pos ⟨rfl,h7⟩]
      refine⟨fun _=> ?_,fun h=>by cases h⟩
      rw[if_pos h7]at hO
      have e1:Zah { r with pos:=(Zav b (r.pos+1)).2 } 11={ r with pos:=(Zav b (r.pos+1)).2,err:=11 }:=if_pos he
      rw[e1,ZeN (by show(11:Int)≠0;decide)]at hO
      rw[hO,Zg5 (by show(11:Int)≠0;decide)]
     ·rw[if_neg (fun h=>h7 h.2),if_pos (.inl rfl)]
      refine⟨fun _=> ?_,fun h=>by cases h⟩
      rw[if_neg h7]at hO
      have e1:Zah { r with pos:=(Zav b (r.pos+1)).2 } 10={ r with pos:=(Zav b (r.pos+1)).2,err:=10 }:=if_pos he
      rw[e1]at hO
      rw[hO,Zg5 (by show(10:Int)≠0;decide)]
   ·rw[if_neg (fun h=>h.elim c2 c3)]
    have hO:opS b r=(c,{ r with pos:=r.pos+1 }):=by
     unfold opS;rw[hB]
     rw[if_neg c3,if_neg c2]
    exact Zvf he hO ⟨by omega,by omega⟩
structure ZFF (b:List Int)(form:Int)(r:Rd)(i:Ins)(f:Ins×Int×Int):Prop where
 bad:f.2.2≠0->(Zv b form r i).2.err=f.2.2
 good:f.2.2=0->Zv b form r i=(f.1,{ r with pos:=f.2.1 })/\r.pos<=f.2.1/\f.2.1<=b.length
theorem Zc3 {b:List Int}{form:Int}{r:Rd}{i i2:Ins}{p:Int}(hneg:p<0->(Zv b form r i).2.err=10)(hpos:0<=p->Zv b form r i=(i2,{ r with pos:=p })/\r.pos<=p/\p<=b.length):ZFF b form r i (Zgr i2 p):=by
 unfold Zgr
 by_cases h:p<0
 ·rw[if_pos h]
  exact⟨fun _=>hneg h,fun h=>by cases h⟩
 ·rw[if_neg h]
  exact⟨fun h=>absurd rfl h,fun _=>hpos (by omega)⟩
theorem ZA4 {b:List Int}{r:Rd}(h:ZcB b r)(he:r.err=0):((ZoL b r.pos).2.2≠0->(ZfY b r).2.err=(ZoL b r.pos).2.2)/\((ZoL b r.pos).2.2=0->ZfY b r=((ZoL b r.pos).1,{ r with pos:=(ZoL b r.pos).2.1 })/\r.pos<=(ZoL b r.pos).2.1/\(ZoL b r.pos).2.1<=b.length):=by
 have h0:=h.p0
 have h1:=h.p1
 have hN:((Zak b r.pos 33).2.2≠0\/(Zak b r.pos 33).1<0->(Zjw b r).2.err=10)/\(¬((Zak b r.pos 33).2.2≠0\/(Zak b r.pos 33).1<0)->Zjw b r=((Zak b r.pos 33).1,{ r with pos:=(Zak b r.pos 33).2.1 })/\r.pos<=(Zak b r.pos 33).2.1/\(Zak b r.pos 33).2.1<=b.length):=by
  unfold Zjw
  by_cases c:(Zak b r.pos 33).2.2≠0
  ·have e:ZfH b 33 r=(0,{ r with err:=10 }):=by unfold ZfH;rw[if_neg (fun h=>h he),if_pos c];unfold Zah;rw[if_pos he]
   rw[e]
   exact⟨fun _=>rfl,fun h=>absurd (.inl c) h⟩
  ·have e:ZfH b 33 r=((Zak b r.pos 33).1,{ r with pos:=(Zak b r.pos 33).2.1 }):=by unfold ZfH;rw[if_neg (fun h=>h he),if_neg c]
   have hp:=ZgW (n:=33) ⟨by decide,by decide⟩ ⟨h0,h1⟩ (Classical.not_not.1 c)
   rw[e]
   by_cases c2:(Zak b r.pos 33).1<0
   ·refine⟨fun _=> ?_,fun h=>absurd (.inr c2) h⟩
    simp only;rw[if_pos c2];unfold Zah;rw[if_pos he]
   ·refine⟨fun h=>absurd h (fun h=>h.elim c c2),fun _=> ?_⟩
    simp only;rw[if_neg c2];exact⟨rfl,by omega,by omega⟩
 unfold ZoL ZfY
 by_cases hp:r.pos<b.length
 ·rw[if_pos hp]
  by_cases c1:ZdG (b.getD r.pos.toNat 0)
  ·have c2: ¬ZfX (b.getD r.pos.toNat 0):=by unfold ZdG at c1;unfold ZfX;omega
   rw[if_pos ⟨hp,c1⟩,if_neg c2,if_pos c1]
   exact⟨fun _=>by unfold Zah;rw[if_pos he],fun h=>by cases h⟩
  ·rw[if_neg (fun h=>c1 h.2)]
   by_cases c2:ZfX (b.getD r.pos.toNat 0)
   ·rw[if_pos ⟨hp,c2⟩,if_pos c2]
    exact⟨fun h=>absurd rfl h,fun _=>⟨rfl,by simp only;omega,by simp only;omega⟩⟩
   ·rw[if_neg (fun h=>c2 h.2),if_neg c2,if_neg c1]
    by_cases c3:(Zak b r.pos 33).2.2≠0\/(Zak b r.pos 33).1<0
    ·rw[if_pos c3];exact⟨fun _=>hN.1 c3,fun h=>by cases h⟩
    ·rw[if_neg c3];exact⟨fun h=>absurd rfl h,fun _=>hN.2 c3⟩
 ·rw[if_neg hp,if_neg (fun h=>hp h.1),if_neg (fun h=>hp h.1)]
  by_cases c3:(Zak b r.pos 33).2.2≠0\/(Zak b r.pos 33).1<0
  ·rw[if_pos c3];exact⟨fun _=>hN.1 c3,fun h=>by cases h⟩
  ·rw[if_neg c3];exact⟨fun h=>absurd rfl h,fun _=>hN.2 c3⟩
theorem Zeb {b:List Int}{r:Rd}(he:r.err=0)(hp:r.pos<b.length):Zal b r=(b.getD r.pos.toNat 0,{ r with pos:=r.pos+1 }):=by
 unfold Zal;rw[if_neg (fun h=>h.elim (fun h=>h he) (by omega))]
theorem Zg6 {b:List Int}{r:Rd}(he:r.err=0)(hp:r.pos>=b.length):Zal b r=(0,{ r with err:=10 }):=by
 unfold Zal;rw[if_pos (.inr hp)];unfold Zah;rw[if_pos he]
theorem ZqD {b:List Int}{r:Rd}(he:r.err≠0):(Zal b r).2=r:=by
 unfold Zal;rw[if_pos (.inl he)];exact ZeN he _
theorem Zvg {b:List Int}: ∀(n:Nat) {r:Rd},r.err≠0->(Zgp b n r).2=r
 |0,_,_=>rfl
 |n+1,r,he=>by rw[Zgp];simp only;rw[ZqD he,Zvg n he]
theorem Zvh {b:List Int}: ∀(n:Nat) {r:Rd},ZcB b r->r.err=0->((b.length:Int)-r.pos<n->(Zgp b n r).2.err=10)/\(¬(b.length:Int)-r.pos<n->Zgp b n r=((b.drop r.pos.toNat).take n,{ r with pos:=r.pos+n }))
 |0,r,h,he=>by
  have:=h.p1
  exact⟨fun h=>by omega,fun _=>by rw[Zgp];simp⟩
 |n+1,r,h,he=>by
  have h0:=h.p0
  have h1:=h.p1
  rw[Zgp]
  by_cases hp:r.pos<b.length
  ·rw[Zeb he hp]
   obtain⟨ih1,ih2⟩:=Zvh n (b:=b) (r:={ r with pos:=r.pos+1 }) ⟨by simp only;omega,by simp only;omega⟩ he
   simp only at ih1 ih2 ⊢
   refine⟨fun hl=>ih1 (by omega),fun hl=> ?_⟩
   rw[ih2 (by omega),ZbQ (l:=b) (k:=r.pos.toNat) (by omega),List.take_succ_cons,show(r.pos+1).toNat=r.pos.toNat+1 by omega,show r.pos+((n+1:Nat):Int)=r.pos+1+n by omega]
  ·rw[Zg6 he (by omega)]
   refine⟨fun _=> ?_,fun hl=>by omega⟩
   simp only
   rw[Zvg n (by show(10:Int)≠0;decide)]
theorem Zz8 {b:List Int}(hb:bytes b): ∀(n:Nat) {r:Rd} {l:List Int},ZcB b r->r.err=0->((tbR b n r.pos l).2<0->(Zie b n r l).2.err=10)/\(0<=(tbR b n r.pos l).2->Zie b n r l=((tbR b n r.pos l).1,{ r with pos:=(tbR b n r.pos l).2 })/\r.pos<=(tbR b n r.pos l).2/\(tbR b n r.pos l).2<=b.length)
 |0,r,l,h,he=>by
  have h0:=h.p0
  have h1:=h.p1
  rw[tbR,Zie]
  exact⟨fun h=>by simp only at h;omega,fun _=>⟨rfl,Int.le_refl _,h1⟩⟩
 |n+1,r,l,h,he=>by
  have h0:=h.p0
  have h1:=h.p1
  have hN:=ZoP hb h he
  have hU:=ZhP hb (p:=r.pos) ⟨h0,h1⟩
  rw[tbR,Zie,if_pos h0,if_pos he]
  by_cases hn:(Zav b r.pos).2<0
  ·rw[if_pos hn]at hN
   rw[hN]
   have e1:tbR b n (Zav b r.pos).2 (l++[(Zav b r.pos).1])=(l++[(Zav b r.pos).1],(Zav b r.pos).2):=by
     cases n with
     |zero=>rfl
     |succ n=>rw[tbR,if_neg (by omega)]
   have e2:Zie b n { r with err:=10 } (l++[0])=(l++[0],{ r with err:=10 }):=by
     cases n with
     |zero=>rfl
     |succ n=>rw[Zie,if_neg (by show ¬(10:Int)=0;decide)]
   rw[e1,e2]
   exact⟨fun _=>rfl,fun h=>by simp only at h;omega⟩
  ·rw[if_neg hn]at hN
   rw[hN]
   have ih:=Zz8 hb n (b:=b) (r:={ r with pos:=(Zav b r.pos).2 }) (l:=l++[(Zav b r.pos).1]) ⟨by simp only;omega,by simp only;omega⟩ he
   simp only at ih ⊢
   exact⟨ih.1,fun h=>⟨(ih.2 h).1,by have:=(ih.2 h).2.1;omega,(ih.2 h).2.2⟩⟩
theorem ZoQ {b:List Int}(hb:bytes b){r:Rd}{p:Int}{R:Rd}(hR:(p<0->R.err=10)/\(0<=p->R={ r with pos:=p }/\p<=b.length))(he:r.err=0) :
 ((Zbv b p).2<0->(Zay b R).2.err=10)/\(0<=(Zbv b p).2->0<=p/\Zay b R=((Zbv b p).1,{ r with pos:=(Zbv b p).2 })/\p<=(Zbv b p).2/\(Zbv b p).2<=b.length):=by
 unfold Zbv
 by_cases h:p>=0
 ·rw[if_pos h]
  obtain⟨rfl,hp⟩:=hR.2 h
  have hk:ZcB b { r with pos:=p }:=⟨h,hp⟩
  have hN:=ZoP hb hk he
  have hU:=ZhP hb (p:=p) ⟨h,hp⟩
  simp only at hN
  rw[hN]
  by_cases hn:(Zav b p).2<0
  ·rw[if_pos hn]
   exact⟨fun _=>rfl,fun h=>by omega⟩
  ·rw[if_neg hn]
   exact⟨fun h=>absurd h hn,fun _=>⟨h,rfl,by omega,by omega⟩⟩
 ·rw[if_neg h]
  have h10:=hR.1 (by omega)
  rw[ZqC (by rw[h10];decide)]
  exact⟨fun _=>h10,fun h2=>absurd h2 (by simp only;omega)⟩
theorem ZA5 {b:List Int}(hb:bytes b){r:Rd}(h:ZcB b r)(he:r.err=0):((Zav b r.pos).2<0->(Zay b r).2.err=10)/\(0<=(Zav b r.pos).2->Zay b r=((Zav b r.pos).1,{ r with pos:=(Zav b r.pos).2 })/\r.pos<=(Zav b r.pos).2/\(Zav b r.pos).2<=b.length):=by
 have h0:=h.p0
 have:=ZoQ hb (r:=r) (p:=r.pos) (R:=r) ⟨fun h=>by omega,fun _=>⟨rfl,h.p1⟩⟩ he
 unfold Zbv at this
 rw[if_pos h0]at this
 exact⟨this.1,fun h=>(this.2 h).2⟩
theorem Zz9 {b:List Int}{r:Rd}{n:Int}(hn:1<=n/\n<=64)(h:ZcB b r)(he:r.err=0):((Zak b r.pos n).2.2≠0->(ZfH b n r).2.err=10)/\(¬(Zak b r.pos n).2.2≠0->ZfH b n r=((Zak b r.pos n).1,{ r with pos:=(Zak b r.pos n).2.1 })/\r.pos<=(Zak b r.pos n).2.1/\(Zak b r.pos n).2.1<=b.length):=by
 unfold ZfH
 rw[if_neg (fun h=>h he)]
 refine⟨fun c=> ?_,fun c=> ?_⟩
 ·rw[if_pos c];unfold Zah;rw[if_pos he]
 ·rw[if_neg c]
  have:=ZgW hn ⟨h.p0,h.p1⟩ (Classical.not_not.1 c)
  exact⟨rfl,by omega,by omega⟩
theorem Zvi {b:List Int}(hb:bytes b){r:Rd}(h:ZcB b r)(he:r.err=0){form:Int}(hf:1<=form/\form<=14)(op:Int):ZFF b form r ⟨op,0,0,0,0,[]⟩ (Zsl b r.pos ⟨op,0,0,0,0,[]⟩ form):=by
 have h0:=h.p0
 have h1:=h.p1
 have hn:=ZA5 hb h he
 have hn2:=ZoQ hb (r:=r) (p:=(Zav b r.pos).2) (R:=(Zay b r).2) ⟨fun hh=>hn.1 hh,fun hh=>⟨by rw[(hn.2 hh).1],(hn.2 hh).2.2⟩⟩ he
 have hcs:form=1\/form=2\/form=3\/form=4\/form=5\/form=6\/form=7\/form=8\/form=9\/form=10\/form=11\/form=12\/form=13\/form=14:=by omega
 have hA: ∀p:Int,0<=p->0<=(Zav b r.pos).2->(Zay b r)=((Zav b r.pos).1,{ r with pos:=(Zav b r.pos).2 }):=fun _ _ hh=>(hn.2 hh).1
 unfold Zsl
 rcases hcs with rfl|rfl|rfl|rfl|rfl|rfl|rfl|rfl|rfl|rfl|rfl|rfl|rfl|rfl
 ·rw[if_pos rfl]
  exact⟨fun h=>absurd rfl h,fun _=>⟨rfl,Int.le_refl _,h1⟩⟩
 ·rw[if_neg (by decide),if_pos rfl]
  have hk:=ZA4 h he
  have e:Zv b 2 r ⟨op,0,0,0,0,[]⟩=(⟨op,(ZfY b r).1,0,0,0,[]⟩,(ZfY b r).2):=by unfold Zv;rw[if_pos rfl]
  refine⟨fun hb=> ?_,fun hg=> ?_⟩
  ·rw[e];exact hk.1 hb
  ·rw[e,(hk.2 hg).1];exact⟨rfl,(hk.2 hg).2⟩
 ·rw[if_neg (by decide),if_neg (by decide),if_neg (by decide),if_pos (by decide)]
  have e:Zv b 3 r ⟨op,0,0,0,0,[]⟩=(⟨op,(Zay b r).1,0,0,0,[]⟩,(Zay b r).2):=by unfold Zv;rw[if_neg (by decide),if_pos (by decide)]
  refine Zc3 (fun hneg=> ?_) (fun hpos=> ?_)
  ·rw[e];exact hn.1 hneg
  ·rw[e,(hn.2 hpos).1];exact⟨rfl,(hn.2 hpos).2⟩
 ·rw[if_neg (by decide),if_neg (by decide),if_pos rfl]
  have e:Zv b 4 r ⟨op,0,0,0,0,[]⟩=(⟨op,(Zay b (Zie b (Zay b r).1.toNat (Zay b r).2 []).2).1,0,0,0,(Zie b (Zay b r).1.toNat (Zay b r).2 []).1⟩,(Zay b (Zie b (Zay b r).1.toNat (Zay b r).2 []).2).2):=by
   unfold Zv;rw[if_neg (by decide),if_neg (by decide),if_pos rfl]
  by_cases hu:(Zav b r.pos).2<0
  ·have h10:=hn.1 hu
   have e2: ∀k,Zie b k (Zay b r).2 []=([],(Zay b r).2):=fun k=>by
    cases k with
    |zero=>rfl
    |succ k=>rw[Zie,if_neg (by rw[h10];decide)]
   have e3: ∀k,tbR b k (Zav b r.pos).2 []=([],(Zav b r.pos).2):=fun k=>by
    cases k with
    |zero=>rfl
    |succ k=>rw[tbR,if_neg (by omega)]
   rw[e2,ZqC (by rw[h10];decide)]at e
   rw[e3]
   unfold Zbv
   rw[if_neg (by simp only;omega)]
   refine Zc3 (fun _=> ?_) (fun hpos=>absurd hpos (by simp only;omega))
   rw[e];exact h10
  ·have hg:=hn.2 (by omega)
   rw[hg.1]at e
   simp only at e
   have ht:=Zz8 hb (Zav b r.pos).1.toNat (b:=b) (r:={ r with pos:=(Zav b r.pos).2 }) (l:=[]) ⟨by simp only;omega,by simp only;omega⟩ he
   simp only at ht
   have hm:=ZoQ hb (r:=r) (p:=(tbR b (Zav b r.pos).1.toNat (Zav b r.pos).2 []).2) (R:=(Zie b (Zav b r.pos).1.toNat { r with pos:=(Zav b r.pos).2 } []).2) ⟨fun hh=>ht.1 hh,fun hh=>⟨by rw[(ht.2 hh).1],(ht.2 hh).2.2⟩⟩ he
   refine Zc3 (fun hneg=> ?_) (fun hpos=> ?_)
   ·rw[e];exact hm.1 hneg
   ·have hm2:=hm.2 hpos
    rw[e,hm2.2.1,(ht.2 hm2.1).1]
    exact⟨rfl,by have:=(ht.2 hm2.1).2.1;have:=hm2.2.2.1;have:=hg.2.1;omega,hm2.2.2.2⟩
 ·rw[if_neg (by decide),if_neg (by decide),if_neg (by decide),if_pos (by decide)]
  have e:Zv b 5 r ⟨op,0,0,0,0,[]⟩=(⟨op,(Zay b r).1,0,0,0,[]⟩,(Zay b r).2):=by unfold Zv;rw[if_neg (by decide),if_pos (by decide)]
  refine Zc3 (fun hneg=> ?_) (fun hpos=> ?_)
  ·rw[e];exact hn.1 hneg
  ·rw[e,(hn.2 hpos).1];exact⟨rfl,(hn.2 hpos).2⟩
 ·rw[if_neg (by decide),if_neg (by decide),if_neg (by decide),if_neg (by decide),if_pos (by decide)]
  have e:Zv b 6 r ⟨op,0,0,0,0,[]⟩=(⟨op,(Zay b r).1,(Zay b (Zay b r).2).1,0,0,[]⟩,(Zay b (Zay b r).2).2):=by unfold Zv;rw[if_neg (by decide),if_neg (by decide),if_neg (by decide),if_pos (by decide)]
  refine Zc3 (fun hneg=> ?_) (fun hpos=> ?_)
  ·rw[e];exact hn2.1 hneg
  ·have hg:=hn2.2 hpos
   rw[e,hg.2.1,(hn.2 hg.1).1];exact⟨rfl,by have:=(hn.2 hg.1).2.1;have:=hg.2.2.1;omega,hg.2.2.2⟩
 ·rw[if_neg (by decide),if_neg (by decide),if_neg (by decide),if_neg (by decide),if_pos (by decide)]
  have e:Zv b 7 r ⟨op,0,0,0,0,[]⟩=(⟨op,(Zay b r).1,(Zay b (Zay b r).2).1,0,0,[]⟩,(Zay b (Zay b r).2).2):=by unfold Zv;rw[if_neg (by decide),if_neg (by decide),if_neg (by decide),if_pos (by decide)]
  refine Zc3 (fun hneg=> ?_) (fun hpos=> ?_)
  ·rw[e];exact hn2.1 hneg
  ·have hg:=hn2.2 hpos
   rw[e,hg.2.1,(hn.2 hg.1).1];exact⟨rfl,by have:=(hn.2 hg.1).2.1;have:=hg.2.2.1;omega,hg.2.2.2⟩
 ·rw[if_neg (by decide),if_neg (by decide),if_neg (by decide),if_neg (by decide),if_neg (by decide),if_pos rfl]
  have e:Zv b 8 r ⟨op,0,0,0,0,[]⟩=(⟨op,(Zay b r).1,(Zay b (Zay b r).2).1,(Zal b (Zay b (Zay b r).2).2).1,0,[]⟩,(Zal b (Zay b (Zay b r).2).2).2):=by unfold Zv;rw[if_neg (by decide),if_neg (by decide),if_neg (by decide),if_neg (by decide),if_pos rfl]
  by_cases hneg:(Zbv b (Zav b r.pos).2).2<0
  ·rw[if_neg (by omega),if_neg (by omega)]
   refine Zc3 (fun _=> ?_) (fun hpos=>absurd hpos (by omega))
   have h10:=hn2.1 hneg
   rw[e];simp only
   rw[ZqD (by rw[h10];decide)];exact h10
  ·have hg:=hn2.2 (by omega)
   rw[hg.2.1,(hn.2 hg.1).1]at e
   simp only at e
   by_cases hl:(Zbv b (Zav b r.pos).2).2>=b.length
   ·rw[if_pos hl]
    refine⟨fun _=> ?_,fun h=>by cases h⟩
    rw[e,Zg6 (by exact he) (by exact hl)]
   ·rw[if_neg hl,if_pos (by omega)]
    refine Zc3 (fun hneg2=>by omega) (fun _=> ?_)
    rw[e,Zeb (by exact he) (by simp only;omega)]
    exact⟨rfl,by have:=(hn.2 hg.1).2.1;have:=hg.2.2.1;omega,by omega⟩
 ·rw[if_neg (by decide),if_neg (by decide),if_neg (by decide),if_neg (by decide),if_neg (by decide),if_neg (by decide),if_pos rfl]
  have hs:=Zz9 (n:=32) ⟨by decide,by decide⟩ h he
  have e:Zv b 9 r ⟨op,0,0,0,0,[]⟩=(⟨op,0,0,(ZfH b 32 r).1%4294967296,0,[]⟩,(ZfH b 32 r).2):=by unfold Zv;rw[if_neg (by decide),if_neg (by decide),if_neg (by decide),if_neg (by decide),if_neg (by decide),if_pos rfl]
  by_cases c:(Zak b r.pos 32).2.2≠0
  ·rw[if_pos c]
   refine Zc3 (fun _=> ?_) (fun hpos=>absurd hpos (by decide))
   rw[e];exact hs.1 c
  ·rw[if_neg c]
   have hg:=hs.2 c
   refine Zc3 (fun hneg=>by omega) (fun _=> ?_)
   rw[e,hg.1];exact⟨rfl,hg.2⟩
 ·rw[if_neg (by decide),if_neg (by decide),if_neg (by decide),if_neg (by decide),if_neg (by decide),if_neg (by decide),if_neg (by decide),if_pos rfl]
  have hs:=Zz9 (n:=64) ⟨by decide,by decide⟩ h he
  have e:Zv b 10 r ⟨op,0,0,0,0,[]⟩=(⟨op,0,0,(ZfH b 64 r).1%18446744073709551616,0,[]⟩,(ZfH b 64 r).2):=by unfold Zv;rw[if_neg (by decide),if_neg (by decide),if_neg (by decide),if_neg (by decide),if_neg (by decide),if_neg (by decide),if_pos rfl]
  by_cases c:(Zak b r.pos 64).2.2≠0
  ·rw[if_pos c]
   refine Zc3 (fun _=> ?_) (fun hpos=>absurd hpos (by decide))
   rw[e];exact hs.1 c
  ·rw[if_neg c]
   have hg:=hs.2 c
   refine Zc3 (fun hneg=>by omega) (fun _=> ?_)
   rw[e,hg.1];exact⟨rfl,hg.2⟩
 all_goals
  rw[if_neg (by decide),if_neg (by decide),if_neg (by decide),if_neg (by decide),if_neg (by decide),if_neg (by decide),if_neg (by decide),if_neg (by decide)]
  unfold Zu5
  have hrow:=Zvh 16 (b:=b) h he
 ·rw[if_pos (by decide)]
  have e:Zv b 11 r ⟨op,0,0,0,0,[]⟩=(⟨op,0,0,lo (Zgp b 16 r).1,hi (Zgp b 16 r).1,[]⟩,(Zgp b 16 r).2):=by unfold Zv;rw[if_neg (by decide),if_neg (by decide),if_neg (by decide),if_neg (by decide),if_neg (by decide),if_neg (by decide),if_neg (by decide),if_pos (by decide)]
  by_cases c:(b.length:Int)-r.pos<16
  ·rw[if_pos c]
   exact⟨fun _=>by rw[e];exact hrow.1 c,fun h=>by cases h⟩
  ·rw[if_neg c]
   exact⟨fun h=>absurd rfl h,fun _=>by rw[e,hrow.2 c];exact⟨rfl,by simp only;omega,by simp only;omega⟩⟩
 ·rw[if_pos (by decide)]
  have e:Zv b 12 r ⟨op,0,0,0,0,[]⟩=(⟨op,0,0,lo (Zgp b 16 r).1,hi (Zgp b 16 r).1,[]⟩,(Zgp b 16 r).2):=by unfold Zv;rw[if_neg (by decide),if_neg (by decide),if_neg (by decide),if_neg (by decide),if_neg (by decide),if_neg (by decide),if_neg (by decide),if_pos (by decide)]
  by_cases c:(b.length:Int)-r.pos<16
  ·rw[if_pos c]
   exact⟨fun _=>by rw[e];exact hrow.1 c,fun h=>by cases h⟩
  ·rw[if_neg c]
   exact⟨fun h=>absurd rfl h,fun _=>by rw[e,hrow.2 c];exact⟨rfl,by simp only;omega,by simp only;omega⟩⟩
 ·rw[if_neg (by decide)]
  have e:Zv b 13 r ⟨op,0,0,0,0,[]⟩=(⟨op,(Zal b r).1,0,0,0,[]⟩,(Zal b r).2):=by unfold Zv;rw[if_neg (by decide),if_neg (by decide),if_neg (by decide),if_neg (by decide),if_neg (by decide),if_neg (by decide),if_neg (by decide),if_neg (by decide),if_pos rfl]
  by_cases c:r.pos>=b.length
  ·rw[if_pos (.inl c)]
   exact⟨fun _=>by rw[e,Zg6 he c],fun h=>by cases h⟩
  ·rw[if_neg (fun h=>h.elim c (fun h=>absurd h.1 (by decide))),if_pos rfl]
   exact⟨fun h=>absurd rfl h,fun _=>by rw[e,Zeb he (by omega)];exact⟨rfl,by simp only;omega,by simp only;omega⟩⟩
 ·rw[if_neg (by decide)]
  have e:Zv b 14 r ⟨op,0,0,0,0,[]⟩=(⟨op,0,0,0,0,[]⟩,if(Zal b r).1≠0 then Zah (Zal b r).2 10 else(Zal b r).2):=by unfold Zv;rw[if_neg (by decide),if_neg (by decide),if_neg (by decide),if_neg (by decide),if_neg (by decide),if_neg (by decide),if_neg (by decide),if_neg (by decide),if_neg (by decide),if_pos rfl]
  by_cases c:r.pos>=b.length
  ·rw[if_pos (.inl c)]
   refine⟨fun _=> ?_,fun h=>by cases h⟩
   rw[e,Zg6 he c];rfl
  ·by_cases c0:b.getD r.pos.toNat 0=0
   ·rw[if_neg (fun h=>h.elim c (fun h=>h.2 c0)),if_neg (by decide)]
    refine⟨fun h=>absurd rfl h,fun _=> ?_⟩
    rw[e,Zeb he (by omega)]
    simp only
    rw[if_neg (fun h=>h c0)]
    exact⟨rfl,by omega,by omega⟩
   ·rw[if_pos (.inr ⟨rfl,c0⟩)]
    refine⟨fun _=> ?_,fun h=>by cases h⟩
    rw[e,Zeb he (by omega)]
    simp only
    rw[if_pos c0];unfold Zah;rw[if_pos he]
theorem ZeO {i:Ins}{p:Int}(h:(Zgr i p).2.2=0):(Zgr i p).1=i:=by
 unfold Zgr at *;split
 ·rename_i c;rw[if_pos c]at h;cases h
 ·rfl
theorem Zvj {b:List Int}{p form:Int}{i:Ins}(h:(Zsl b p i form).2.2=0):(Zsl b p i form).1.op=i.op:=by
 unfold Zsl at *
 by_cases c1:form=1
 ·rw[if_pos c1]
 rw[if_neg c1]at h ⊢
 by_cases c2:form=2
 ·rw[if_pos c2]
 rw[if_neg c2]at h ⊢
 by_cases c3:form=4
 ·rw[if_pos c3]at h ⊢;rw[ZeO h]
 rw[if_neg c3]at h ⊢
 by_cases c4:form=3\/form=5
 ·rw[if_pos c4]at h ⊢;rw[ZeO h]
 rw[if_neg c4]at h ⊢
 by_cases c5:form=6\/form=7
 ·rw[if_pos c5]at h ⊢;rw[ZeO h]
 rw[if_neg c5]at h ⊢
 by_cases c6:form=8
 ·rw[if_pos c6]at h ⊢
  by_cases d1:(Zbv b (Zav b p).2).2>=b.length
  ·rw[if_pos d1]
  rw[if_neg d1]at h ⊢
  by_cases d2:(Zbv b (Zav b p).2).2>=0
  ·rw[if_pos d2]at h ⊢;rw[ZeO h]
  ·rw[if_neg d2]at h ⊢;rw[ZeO h]
 rw[if_neg c6]at h ⊢
 by_cases c7:form=9
 ·rw[if_pos c7]at h ⊢;rw[ZeO h]
 rw[if_neg c7]at h ⊢
 by_cases c8:form=10
 ·rw[if_pos c8]at h ⊢;rw[ZeO h]
 rw[if_neg c8]at h ⊢
 unfold Zu5 at *
 by_cases c9:form=11\/form=12
 ·rw[if_pos c9]at h ⊢
  by_cases d1:(b.length:Int)-p<16
  ·rw[if_pos d1]at h;cases h
  ·rw[if_neg d1]
 rw[if_neg c9]at h ⊢
 by_cases d1:p>=b.length\/(form=14/\b.getD p.toNat 0≠0)
 ·rw[if_pos d1]at h;cases h
 rw[if_neg d1]
 by_cases d2:form=13
 ·rw[if_pos d2]
 ·rw[if_neg d2]
theorem ZrN {b:List Int}(hb:bytes b){r:Rd}(h:ZcB b r)(he:r.err=0)(hq:(Zct b r.pos).2.2≠0):(Zbn b r).2.err=(Zct b r.pos).2.2:=(ZDd hb h he).bad hq
theorem ZyD {b:List Int}(hb:bytes b){r:Rd}(h:ZcB b r)(he:r.err=0)(hq:(Zct b r.pos).2.2=0) :
 Zbn b r=Zqt (Zct b r.pos).1 (Zv b (ofS (Zct b r.pos).1).1.1 { r with pos:=(Zct b r.pos).2.1 } ⟨(Zct b r.pos).1,0,0,0,0,[]⟩)/\ZFF b (ofS (Zct b r.pos).1).1.1 { r with pos:=(Zct b r.pos).2.1 } ⟨(Zct b r.pos).1,0,0,0,0,[]⟩ (Zsl b (Zct b r.pos).2.1 ⟨(Zct b r.pos).1,0,0,0,0,[]⟩ (ofS (Zct b r.pos).1).1.1)/\(0<=(Zct b r.pos).1/\(Zct b r.pos).1<=65023)/\r.pos<(Zct b r.pos).2.1/\(Zct b r.pos).2.1<=b.length:=by
 obtain⟨e1,e2,e3,e4,e5⟩:=(ZDd hb h he).good hq
 have h0:=h.p0
 have hf:=ZhQ e3
 refine⟨?_,Zvi hb (r:={ r with pos:=(Zct b r.pos).2.1 }) ⟨by simp only;omega,e5⟩ he hf.2 _,hf.1,e4,e5⟩
 have e6: ∀r':Rd,ZlW (Zct b r.pos).1 r'=r':=fun r'=>by unfold ZlW;rw[e2];rfl
 have e7: ∀r':Rd,ZlX (Zct b r.pos).1 r'=r':=fun r'=>by unfold ZlX;rw[if_pos e3]
 have e8: ∀r':Rd,r'.err=0->Zd9 b (Zct b r.pos).1 r'=Zv b (ofS (Zct b r.pos).1).1.1 r' ⟨(Zct b r.pos).1,0,0,0,0,[]⟩:=fun r' hr=>if_pos hr
 rw[ZgX,e1,ZeH,e6,e7]
 simp only
 rw[e8 _ (by exact he)]
theorem Zdt {b x rest:List Int}{p:Nat}(h:b.drop p=x++rest)(hx:x≠[]):p+x.length<=b.length/\b.drop (p+x.length)=rest:=by
 have h1:=congrArg List.length h
 have hl:0<x.length:=by cases x with|nil=>exact absurd rfl hx|cons=>exact Nat.succ_pos _
 simp only[Yaw,Yal]at h1
 refine⟨by omega,?_⟩
 rw[<- List.drop_drop,h,List.drop_left]
theorem ZA6 (n:Nat):ZhK n≠[]:=by rw[ZhK];split<;>simp
theorem ZA7 (n:Int):ZdD n≠[]:=by rw[ZdD];split<;>simp
theorem Znp (n:Int):uB n≠[]:=ZA6 _
theorem Zg7 {b rest:List Int}{p:Nat}{n:Int}(hn:0<=n/\n<4294967296)(h:b.drop p=uB n++rest):Zav b p=(n,(p:Int)+((uB n).length:Nat)):=by
 have hd:=Zdt h (Znp n)
 unfold uB at h hd ⊢
 rw[Int.emod_eq_of_lt hn.1 (by omega)]at h hd ⊢
 have hs:Zbg b p 32=(n,(p:Int)+((ZhK n.toNat).length:Nat),0):=by
  unfold Zbg
  rw[if_neg (by omega),Yap,h]
  have:=ZuQ 32 rest n.toNat 0 0 p (by decide)
  rw[Nat.mul_zero]at this
  rw[this,if_pos (by show n.toNat<2^32;omega)]
  simp only[Int.pow_zero,Int.mul_one,Int.zero_add,Yai,and_true,true_and]
  omega
 unfold Zav
 rw[hs]
 rw[if_neg (fun h=>h rfl)]
theorem ZFG {b rest:List Int}{p:Nat}{n bits:Int}(hb:1<=bits/\bits<=64)(hn: -2^(bits-1).toNat<=n/\n<2^(bits-1).toNat)(h:b.drop p=ZdD n++rest):Zak b p bits=(n,(p:Int)+((ZdD n).length:Nat),0):=by
 have hd:=Zdt h (ZA7 n)
 unfold Zak
 rw[if_neg (by omega),Yap,h]
 have:=ZAL bits rest n 0 0 p (by omega) hb.2 (Int.le_refl 0) (by decide)
 rw[Nat.mul_zero]at this
 rw[this,if_pos (by simpa using hn)]
 simp
theorem ZyE:(ZwE.all fun r=>decide (r.2.1<252\/64768<=r.1)&&ZFe.all fun p=>decide (p.2<r.1\/r.2.1<p.1))=true:=by decide +kernel
theorem ZA8 {op:Int}(h:(ofS op).2=true):(op<252\/64768<=op)/\flS op=false:=by
 unfold ofS at h
 cases hf:Zd4 op ZwE with
 |none=>rw[hf]at h;cases h
 |some r=>
  have hm:=Zm3 hf
  have:=Yat.1 ZyE r hm.1
  simp only[Yao,Yaz]at this
  refine⟨by omega,?_⟩
  cases e:flS op with
  |false=>rfl
  |true=>
   unfold flS at e;rw[List.any_eq_true]at e
   obtain⟨p,hp,h2⟩:=e
   have h3:=of_decide_eq_true (Yat.1 this.2 p hp)
   have h4:=of_decide_eq_true h2
   omega
theorem ZcT {b rest:List Int}{p:Nat}{x:Int}(h:b.drop p=x::rest):p<b.length/\b.getD p 0=x/\b.drop (p+1)=rest:=by
 have h1:=congrArg List.length h
 simp only[Yaw,Yag]at h1
 have hp:p<b.length:=by omega
 rw[ZbQ hp]at h
 injection h with h2 h3
 exact⟨hp,h2,h3⟩
theorem ZDe {b rest:List Int}{p:Nat}{op:Int}(ho:(ofS op).2=true)(h:b.drop p=opB op++rest):Zct b p=(op,(p:Int)+((opB op).length:Nat),0):=by
 have hr:=ZhQ ho
 obtain⟨hs,hf⟩:=ZA8 ho
 have hk: ∀q,ZwG op q=(op,q,0):=fun q=>by unfold ZwG;rw[if_neg (by rw[hf];decide),if_pos ho]
 unfold opB at h ⊢
 by_cases hb:op>=64768
 ·rw[if_pos hb]at h ⊢
  obtain⟨h1,h2,h3⟩:=ZcT (rest:=uB (op-64768)++rest) h
  have hu:=Zg7 (p:=p+1) ⟨by omega,by omega⟩ h3
  unfold Zct
  rw[if_neg (by omega),Yap,h2]
  rw[show((p:Int)+1)=((p+1:Nat):Int)by omega,hu]
  rw[if_pos (.inr rfl),if_neg (by simp only;omega),if_neg (fun h=>absurd h.1 (by decide)),if_neg (fun h=>h.elim (by decide) (by simp only;omega))]
  simp only
  rw[show 64768+(op-64768)=op by omega,hk]
  simp only[Yag,Yai,true_and,and_true]
  omega
 ·rw[if_neg hb]at h ⊢
  obtain⟨h1,h2,h3⟩:=ZcT (rest:=rest) h
  have e:op%256=op:=Int.emod_eq_of_lt hr.1.1 (by omega)
  rw[e]at h2
  unfold Zct
  rw[if_neg (by omega),Yap,h2,if_neg (by omega),hk]
  simp
def Zcl (i:Ins)(form:Int):List Int:=
 if form=1 then[]
 else if form=2 then(if i.a= -64\/i.a= -1\/i.a= -2\/i.a= -5 then[(i.a+128)%256]else ZdD i.a)
 else if form=3\/form=5 then uB i.a
 else if form=4 then uB i.l.length++i.l.flatMap uB++uB i.a
 else if form=6\/form=7 then uB i.a++uB i.b
 else if form=8 then uB i.a++uB i.b++[i.lo%256]
 else(Zam [] i form).1
theorem Zvk (out:List Int)(i:Ins)(form:Int):(Zam out i form).1=out++(Zam [] i form).1/\(Zam out i form).2=(Zam [] i form).2:=by
 unfold Zam
 repeat' split
 all_goals exact⟨by simp,rfl⟩
theorem ZoR (i:Ins)(form:Int):(Zif i form).1=opB i.op++Zcl i form:=by
 unfold Zif Zcl
 repeat' split
 all_goals first
  |exact(Zvk _ i form).1
  |simp
theorem ZDf {b rest:List Int}{p:Nat}{a:Int}(hok:(a= -64\/a= -1\/a= -2\/a= -5)\/Zcu a=true)(h:b.drop p=(if a= -64\/a= -1\/a= -2\/a= -5 then[(a+128)%256]else ZdD a)++rest):ZoL b p=(a,(p:Int)+((if a= -64\/a= -1\/a= -2\/a= -5 then[(a+128)%256]else ZdD a).length:Nat),0):=by
 by_cases hs:a= -64\/a= -1\/a= -2\/a= -5
 ·rw[if_pos hs]at h ⊢
  obtain⟨h1,h2,h3⟩:=ZcT (rest:=rest) h
  unfold ZoL
  rw[Yap,h2]
  rw[if_neg (fun h=>by have:=h.2;unfold ZdG at this;omega),if_pos ⟨by omega,by unfold ZfX;omega⟩]
  simp only[Yag,List.length_nil,Yai,and_true]
  omega
 ·rw[if_neg hs]at h ⊢
  have hn:0<=a/\a<4294967296:=of_decide_eq_true (hok.resolve_left hs)
  have hsp:=ZFG (bits:=33) ⟨by decide,by decide⟩ (by show -2^32<=a/\a<2^32;simp only[Int.reducePow];omega) h
  have hf: ∃x t,ZdD a=x::t/\ ¬ZdG x/\ ¬ZfX x:=by
   by_cases h6: -64<=a/\a<=63
   ·refine⟨a%128,[],by rw[ZdD,if_pos h6],?_,?_⟩
    ·unfold ZdG;omega
    ·unfold ZfX;omega
   ·refine⟨a%128+128,ZdD (a/128),by rw[ZdD,if_neg h6],?_,?_⟩
    ·unfold ZdG;omega
    ·unfold ZfX;omega
  obtain⟨x,t,hx,hx1,hx2⟩:=hf
  have hd:=h
  rw[hx]at hd
  obtain⟨h1,h2,h3⟩:=ZcT (rest:=t++rest) hd
  unfold ZoL
  rw[Yap,h2,if_neg (fun h=>hx1 h.2),if_neg (fun h=>hx2 h.2),hsp,if_neg (fun h=>h.elim (fun h=>h rfl) (by simp only;omega))]
theorem ZDg {b:List Int}: ∀(l:List Int) (p:Nat) (rest acc:List Int),(∀x∈l,Zcu x=true)->b.drop p=l.flatMap uB++rest->tbR b l.length p acc=(acc++l,(p:Int)+((l.flatMap uB).length:Nat))
 |[],p,rest,acc,_,h=>by simp[tbR]
 |x::l,p,rest,acc,hl,h=>by
  have hx:0<=x/\x<4294967296:=of_decide_eq_true (hl x (List.mem_cons_self ..))
  rw[List.flatMap_cons,Ya6]at h
  have hu:=Zg7 hx h
  have hd:=Zdt h (Znp x)
  rw[Yag,tbR,if_pos (by omega),hu]
  simp only
  have ih:=ZDg l (p+(uB x).length) rest (acc++[x]) (fun y hy=>hl y (Yaq _ hy)) hd.2
  rw[show(p:Int)+((uB x).length:Nat)=((p+(uB x).length:Nat):Int)by omega,ih]
  simp only[List.flatMap_cons,Yal,Ya6,List.singleton_append,Yai,true_and]
  omega
theorem ZyF {op:Int}{p:Ins×Rd}(h:p.2.err≠0):(Zqt op p).2.err=p.2.err:=by
 unfold Zqt;simp only;rw[if_neg (fun c=>h c.1)]
def Rnd (b:List Int)(n:Nat)(l:List Ins)(o j:List Int)(A:List Ins×Int×Int)(op:Int)(i:Ins)(p2:Int):Prop:=
 ((op=2\/op=3\/op=4)/\o.length=128/\A=([],0,3))\/
 ((op=2\/op=3\/op=4)/\o.length≠128/\ZdU b n ⟨p2,o++[op],[],0⟩ (l++[i])=A)\/
 (op=5/\o.length=0/\A=([],0,10))\/
 (op=5/\(o.length≠0/\o.getD (o.length-1) 0≠4)/\A=([],0,10))\/
 (op=5/\(o.length≠0/\o.getD (o.length-1) 0=4)/\ZdU b n ⟨p2,o.take (o.length-1)++[5],j,0⟩ (l++[i])=A)\/
 (op=11/\o.length=0/\A=(l++[i],p2,0))\/
 (op=11/\o.length≠0/\ZdU b n ⟨p2,o.take (o.length-1),o.drop (o.length-1)++j,0⟩ (l++[i])=A)\/
 ((op≠2/\op≠3/\op≠4/\op≠5/\op≠11)/\ZdU b n ⟨p2,o,j,0⟩ (l++[i])=A)
theorem Zky {b:List Int}(hb:bytes b){k:Int}{o j:List Int}{l:List Ins}{n:Nat}{A:List Ins×Int×Int}(h:ZcB b ⟨k,o,j,0⟩)(hL:ZdU b (n+1) ⟨k,o,j,0⟩ l=A) :
 ((Zct b k).2.2≠0/\A=([],0,(Zct b k).2.2))\/((Zct b k).2.2=0/\(k<(Zct b k).2.1/\(Zct b k).2.1<=b.length)/\(0<=(Zct b k).1/\(Zct b k).1<=65023)/\
   ∀f,Zsl b (Zct b k).2.1 ⟨(Zct b k).1,0,0,0,0,[]⟩ (ofS (Zct b k).1).1.1=f->(f.2.2≠0/\A=([],0,f.2.2))\/(f.2.2=0/\((Zct b k).2.1<=f.2.1/\f.2.1<=b.length)/\Rnd b n l o j A (Zct b k).1 f.1 f.2.1)):=by
 have hb1:=ZrN hb h rfl
 have hgo:=ZyD hb h rfl
 rw[ZdU]at hL
 generalize Zbn b ⟨k,o,j,0⟩=z at hb1 hgo hL
 obtain⟨i0,r2⟩:=z
 simp only at hb1 hgo hL
 generalize Zct b k=q at *
 obtain⟨op,p1,e1⟩:=q
 simp only at *
 by_cases hq:e1≠0
 ·left
  have h2:=hb1 hq
  rw[if_pos (by rw[h2];exact hq),h2]at hL
  exact⟨hq,hL.symm⟩
 ·right
  obtain rfl:e1=0:=Classical.not_not.1 hq
  obtain⟨hz,⟨hfb,hfg⟩,ho,hpa,hpb⟩:=hgo rfl
  refine⟨rfl,⟨hpa,hpb⟩,ho,?_⟩
  rintro⟨i,p2,e2⟩ hf
  have hiop:=Zvj (b:=b) (p:=p1) (form:=(ofS op).1.1) (i:=⟨op,0,0,0,0,[]⟩)
  rw[hf]at hfb hfg hiop
  simp only at hfb hfg hiop ⊢
  by_cases hq2:e2≠0
  ·left
   have h2:=hfb hq2
   have h3:r2.err=e2:=by
    have:=congrArg (fun z=>z.2.err) hz
    simp only at this
    rw[this,ZyF (by rw[h2];exact hq2),h2]
   rw[if_pos (by rw[h3];exact hq2),h3]at hL
   exact⟨hq2,hL.symm⟩
  ·right
   obtain rfl:e2=0:=Classical.not_not.1 hq2
   obtain⟨hfe,hp2⟩:=hfg rfl
   refine⟨rfl,hp2,?_⟩
   rw[hfe]at hz
   unfold Zqt at hz
   simp only[Yai,true_and]at hz
   obtain⟨rfl,hz⟩:=hz
   have hop:i0.op=op:=hiop rfl
   rw[hop]at hL
   unfold Rnd
   have hcs:(op=2\/op=3\/op=4)\/op=5\/op=11\/(op≠2/\op≠3/\op≠4/\op≠5/\op≠11):=by omega
   rcases hcs with h2|rfl|rfl|h2
   ·rw[if_pos (by omega)]at hz
    unfold ZbR at hz
    rw[if_pos (by omega)]at hz
    by_cases h128:o.length=128
    ·left
     rw[if_pos h128]at hz
     have:r2.err=3:=by rw[hz];rfl
     rw[if_pos (by rw[this];decide),this]at hL
     exact⟨h2,h128,hL.symm⟩
    ·right;left
     rw[if_neg h128]at hz
     have:r2.err=0:=by rw[hz]
     rw[if_neg (fun h=>h this),if_neg (by omega),hz]at hL
     exact⟨h2,h128,hL⟩
   ·rw[if_pos (by decide)]at hz
    unfold ZbR at hz
    rw[if_neg (fun h=>h rfl)]at hz
    simp only at hz
    by_cases h0:o.length=0
    ·rw[if_pos (.inl h0)]at hz
     have:r2.err=10:=by rw[hz];rfl
     rw[if_pos (by rw[this];decide),this]at hL
     exact .inr (.inr (.inl ⟨rfl,h0,hL.symm⟩))
    ·by_cases h4:o.getD (o.length-1) 0=4
     ·rw[if_neg (fun h=>h.elim h0 (fun h=>h h4))]at hz
      have:r2.err=0:=by rw[hz]
      rw[if_neg (fun h=>h this),if_neg (by decide),hz]at hL
      exact .inr (.inr (.inr (.inr (.inl ⟨rfl,⟨h0,h4⟩,hL⟩))))
     ·rw[if_pos (.inr h4)]at hz
      have:r2.err=10:=by rw[hz];rfl
      rw[if_pos (by rw[this];decide),this]at hL
      exact .inr (.inr (.inr (.inl ⟨rfl,⟨h0,h4⟩,hL.symm⟩)))
   ·rw[if_neg (by decide)]at hz
    have:r2.err=0:=by rw[hz]
    rw[if_neg (fun h=>h this),if_pos rfl,hz]at hL
    unfold ZeW at hL
    simp only at hL
    by_cases h0:o.length=0
    ·rw[if_pos h0]at hL
     simp only[↓reduceIte]at hL
     exact .inr (.inr (.inr (.inr (.inr (.inl ⟨rfl,h0,hL.symm⟩)))))
    ·rw[if_neg h0]at hL
     simp only[Bool.false_eq_true,↓reduceIte]at hL
     exact .inr (.inr (.inr (.inr (.inr (.inr (.inl ⟨rfl,h0,hL⟩))))))
   ·rw[if_neg (by omega)]at hz
    have:r2.err=0:=by rw[hz]
    rw[if_neg (fun h=>h this),if_neg h2.2.2.2.2,hz]at hL
    exact .inr (.inr (.inr (.inr (.inr (.inr (.inr ⟨h2,hL⟩))))))
end Go.Proofs.YtimhmpdfioihlaaGreatDoor
