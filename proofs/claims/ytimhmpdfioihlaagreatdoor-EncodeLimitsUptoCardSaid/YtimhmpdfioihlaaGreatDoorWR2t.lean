/- constant: what it appends to is lent to it. -/
import Derived.Test.YtimhmpdfioihlaaGreatDoorDP
import Derived.Test.YtimhmpdfioihlaaGreatDoorGPreV
import Derived.Test.YtimhmpdfioihlaaGreatDoorGV6
import Derived.Test.YtimhmpdfioihlaaGreatDoorGCB
import Derived.Test.YtimhmpdfioihlaaGreatDoorGRefpre
import Derived.Test.YtimhmpdfioihlaaGreatDoorGWP
set_option linter.unusedSimpArgs false
set_option linter.unusedVariables false
set_option maxHeartbeats 12800000
namespace Go.Proofs.YtimhmpdfioihlaaGreatDoor
set_option maxRecDepth 20000
open Go Go.Abs Nat
attribute [local irreducible] AW AWL AC FW CW CWr IntKind.wrap
section
theorem ZFo.NM:type_of% @MB.NM/\type_of% @Zdn:=
 ⟨MB.NM,@Zdn⟩
open ZFo
theorem Znf {p:Prop}(h:p:=by
 repeat' (first
  |((with_reducible show AW _ _ _ _);first|((first|refine AW.seqA ?_|refine AW.blockA ?_);intro Qn hQn hPn))
  |((with_reducible first|show AWL _ _ _ _ _|show AW _ _ _ _);(first|refine AWL.nil ?_|refine AW.skip ?_|refine AW.ret ?_|refine AW.exit ?_);(repeat (first|refine QEq.mp (by assumption) ?_|simp only[Zbd,Go.Abs.blockQ,↓reduceIte,Nat.reduceEqDiff])))
  |((first
   |((with_reducible show AWL _ _ _ _ _);first|refine AWL.opN (sl:=SL) rfl rfl rfl trivial ?_|(refine AWL.boxF (t:=185) rfl rfl rfl rfl rfl ?_)|(refine AWL.allocF (t:=185) rfl rfl rfl rfl rfl rfl ?_)|(refine AWL.op (sl:=SL) rfl rfl ?_ ?_)|(refine AWL.ptrNil rfl rfl rfl rfl rfl rfl (by kernel_rfl) ?_)|(refine AWL.sliceNil rfl rfl rfl rfl rfl (by kernel_rfl) ?_ ?_;(focus (first|exact trivial|exact Zi8));(intro r hr;cases r<;>first|(have hr:=hr rfl)|(clear hr)))|(refine AWL.guard2 rfl rfl rfl rfl rfl rfl ?_ ?_<;>(intro hc;(try simp only[Bool.not_true,Bool.not_false]at hc);first|(cases hc;done)|((try simp only[hc]);(try simp only[HCX]at hc);(try(exfalso;omega));(try(guard_hyp hc:True;clear hc)))))|refine AWL.guardU rfl rfl rfl rfl rfl rfl ?_|refine' cl)
   |((with_reducible show AW _ _ _ _);first|((show AW _ (.region _ _ false) _ _);refine kp ?_;refine AW.region ?_))
   |((with_reducible show AT _ _ _ _ _ _);refine' att2))<;>(try((first|with_reducible (first|show AWL _ _ _ _ _|show AW _ _ _ _|show DQ _ _ _ _ _ _)|(rintro _ _ ⟨rfl,rfl⟩;(try refine And.intro rfl ?_)));(try refine' Zf))))
  |((with_reducible show AW _ _ _ _);first|(refine AW.cond rfl (fun hc=> ?_) (fun hc=> ?_)<;>first|(cases hc;done)|((try simp only[HCX]at hc);(try(exfalso;omega));(try(guard_hyp hc:True;clear hc)))))
  |((with_reducible show True);exact trivial)|((with_reducible show ATQ _ _ _ _);show AT _ _ _ _ _ _)
  |((refine ZjX.mk [6] rfl rfl rfl rfl ?_ ?_ ?_ ?_;(focus (first|exact Or.inl rfl|exact Or.inr rfl));(focus (repeat (first|exact List.forall_mem_nil _|refine Ya5.2 ⟨rfl,?_⟩))))<;>(try simp(disch:=omega) only[NM,Nat.reduceBEq,reduceAdd,reduceMul,Int.reduceToNat,reduceSub,List.set_cons_zero,List.set_cons_succ,nx]))
  |exact sd
  |fail)
 all_goals(try clear nx)
 all_goals(apply_rules (newGoals:= .nonDependentOnly) only[dep];exact())):p:=h
theorem Zz5.att {p:Prop}(h:p:=by
 first
  |(first|refine AT.step (L:=(bA 16 1023)) [10,14] (by decide +kernel) (by decide) (Z8 ⟨_,(bA 16 2047),rfl,(by decide +kernel),?_⟩ ⟨_,(bA 16 17407),rfl,(by decide +kernel),?_⟩)|refine AT.step (L:=(bA 16 17407)) [10] (by decide +kernel) (by decide) (Zr ⟨_,(bA 16 18431),rfl,(by decide +kernel),?_⟩)|refine AT.step (L:=(bA 16 18431)) [11] (by decide +kernel) (by decide) (Zr ⟨_,(bA 16 20479),rfl,(by decide +kernel),?_⟩)|refine AT.step (L:=(bA 16 20479)) [12] (by decide +kernel) (by decide) (Zr ⟨_,(bA 16 24575),rfl,(by decide +kernel),?_⟩)|refine AT.step (L:=(bA 16 24575)) [13] (by decide +kernel) (by decide) (Zr ⟨_,(bA 16 32767),rfl,(by decide +kernel),?_⟩)|refine AT.step (L:=(bA 16 32767)) [15] (by decide +kernel) (by decide) (Zr ⟨_,(bA 16 65535),rfl,(by decide +kernel),?_⟩)|refine AT.done (L:=(bA 16 65535)) (by decide +kernel) ?_|refine AT.step (L:=(bA 16 2047)) [11,14] (by decide +kernel) (by decide) (Z8 ⟨_,(bA 16 4095),rfl,(by decide +kernel),?_⟩ ⟨_,(bA 16 18431),rfl,(by decide +kernel),?_⟩)|refine AT.step (L:=(bA 16 4095)) [12,14] (by decide +kernel) (by decide) (Z8 ⟨_,(bA 16 8191),rfl,(by decide +kernel),?_⟩ ⟨_,(bA 16 20479),rfl,(by decide +kernel),?_⟩)|refine AT.step (L:=(bA 16 8191)) [13,14] (by decide +kernel) (by decide) (Z8 ⟨_,(bA 16 16383),rfl,(by decide +kernel),?_⟩ ⟨_,(bA 16 24575),rfl,(by decide +kernel),?_⟩)|refine AT.step (L:=(bA 16 16383)) [14] (by decide +kernel) (by decide) (Zr ⟨_,(bA 16 32767),rfl,(by decide +kernel),?_⟩))
 all_goals(apply_rules (newGoals:= .nonDependentOnly) only[dep];exact())):p:=h
theorem Zz5.att2 {p:Prop}(h:p:=by
 first
  |(first|(refine AT.takeM (L:=(bA 13 0)) (L':=(bA 13 1)) 0 rfl rfl rfl rfl rfl Zbt (by decide +kernel) (by decide +kernel) ?_;(try refine' Zf))|(refine AT.takeF (L:=(bA 13 1)) (L':=(bA 13 3)) 1 rfl rfl rfl rfl rfl rfl rfl rfl Zbt (by decide +kernel) (by decide +kernel) ?_;(try refine' Zf))|(refine AT.takeF (L:=(bA 13 3)) (L':=(bA 13 259)) 8 rfl rfl rfl rfl rfl rfl rfl rfl Zbt (by decide +kernel) (by decide +kernel) ?_;(try refine' Zf))|refine AT.step (L:=(bA 13 259)) [2,9] (by decide +kernel) (by decide) (Z8 ⟨_,(bA 13 263),rfl,(by decide +kernel),?_⟩ ⟨_,(bA 13 771),rfl,(by decide +kernel),?_⟩)|refine AT.step (L:=(bA 13 771)) [2,10] (by decide +kernel) (by decide) (Z8 ⟨_,(bA 13 775),rfl,(by decide +kernel),?_⟩ ⟨_,(bA 13 1795),rfl,(by decide +kernel),?_⟩)|refine AT.step (L:=(bA 13 1795)) [2] (by decide +kernel) (by decide) (Zr ⟨_,(bA 13 1799),rfl,(by decide +kernel),?_⟩)|refine AT.step (L:=(bA 13 1799)) [3] (by decide +kernel) (by decide) (Zr ⟨_,(bA 13 1807),rfl,(by decide +kernel),?_⟩)|refine AT.step (L:=(bA 13 1807)) [4] (by decide +kernel) (by decide) (Zr ⟨_,(bA 13 1823),rfl,(by decide +kernel),?_⟩)|refine AT.step (L:=(bA 13 1823)) [5] (by decide +kernel) (by decide) (Zr ⟨_,(bA 13 1855),rfl,(by decide +kernel),?_⟩)|refine AT.step (L:=(bA 13 1855)) [6] (by decide +kernel) (by decide) (Zr ⟨_,(bA 13 1919),rfl,(by decide +kernel),?_⟩)|refine AT.step (L:=(bA 13 1919)) [7] (by decide +kernel) (by decide) (Zr ⟨_,(bA 13 2047),rfl,(by decide +kernel),?_⟩)|refine AT.step (L:=(bA 13 2047)) [11] (by decide +kernel) (by decide) (Zr ⟨_,(bA 13 4095),rfl,(by decide +kernel),?_⟩)|refine AT.step (L:=(bA 13 4095)) [12] (by decide +kernel) (by decide) (Zr ⟨_,(bA 13 8191),rfl,(by decide +kernel),?_⟩)|refine AT.done (L:=(bA 13 8191)) (by decide +kernel) ?_|refine AT.step (L:=(bA 13 775)) [3,10] (by decide +kernel) (by decide) (Z8 ⟨_,(bA 13 783),rfl,(by decide +kernel),?_⟩ ⟨_,(bA 13 1799),rfl,(by decide +kernel),?_⟩)|refine AT.step (L:=(bA 13 783)) [4,10] (by decide +kernel) (by decide) (Z8 ⟨_,(bA 13 799),rfl,(by decide +kernel),?_⟩ ⟨_,(bA 13 1807),rfl,(by decide +kernel),?_⟩)|refine AT.step (L:=(bA 13 799)) [5,10] (by decide +kernel) (by decide) (Z8 ⟨_,(bA 13 831),rfl,(by decide +kernel),?_⟩ ⟨_,(bA 13 1823),rfl,(by decide +kernel),?_⟩)|refine AT.step (L:=(bA 13 831)) [6,10] (by decide +kernel) (by decide) (Z8 ⟨_,(bA 13 895),rfl,(by decide +kernel),?_⟩ ⟨_,(bA 13 1855),rfl,(by decide +kernel),?_⟩)|refine AT.step (L:=(bA 13 895)) [7,10] (by decide +kernel) (by decide) (Z8 ⟨_,(bA 13 1023),rfl,(by decide +kernel),?_⟩ ⟨_,(bA 13 1919),rfl,(by decide +kernel),?_⟩)|refine AT.step (L:=(bA 13 1023)) [10,11] (by decide +kernel) (by decide) (Z8 ⟨_,(bA 13 2047),rfl,(by decide +kernel),?_⟩ ⟨_,(bA 13 3071),rfl,(by decide +kernel),?_⟩)|refine AT.step (L:=(bA 13 3071)) [10] (by decide +kernel) (by decide) (Zr ⟨_,(bA 13 4095),rfl,(by decide +kernel),?_⟩)|refine AT.step (L:=(bA 13 263)) [3,9] (by decide +kernel) (by decide) (Z8 ⟨_,(bA 13 271),rfl,(by decide +kernel),?_⟩ ⟨_,(bA 13 775),rfl,(by decide +kernel),?_⟩)|refine AT.step (L:=(bA 13 271)) [4,9] (by decide +kernel) (by decide) (Z8 ⟨_,(bA 13 287),rfl,(by decide +kernel),?_⟩ ⟨_,(bA 13 783),rfl,(by decide +kernel),?_⟩)|refine AT.step (L:=(bA 13 287)) [5,9] (by decide +kernel) (by decide) (Z8 ⟨_,(bA 13 319),rfl,(by decide +kernel),?_⟩ ⟨_,(bA 13 799),rfl,(by decide +kernel),?_⟩)|refine AT.step (L:=(bA 13 319)) [6,9] (by decide +kernel) (by decide) (Z8 ⟨_,(bA 13 383),rfl,(by decide +kernel),?_⟩ ⟨_,(bA 13 831),rfl,(by decide +kernel),?_⟩)|refine AT.step (L:=(bA 13 383)) [7,9] (by decide +kernel) (by decide) (Z8 ⟨_,(bA 13 511),rfl,(by decide +kernel),?_⟩ ⟨_,(bA 13 895),rfl,(by decide +kernel),?_⟩)|refine AT.step (L:=(bA 13 511)) [9,11] (by decide +kernel) (by decide) (Z8 ⟨_,(bA 13 1023),rfl,(by decide +kernel),?_⟩ ⟨_,(bA 13 2559),rfl,(by decide +kernel),?_⟩)|refine AT.step (L:=(bA 13 2559)) [9] (by decide +kernel) (by decide) (Zr ⟨_,(bA 13 3071),rfl,(by decide +kernel),?_⟩)|(refine AT.takeM (L:=(bA 16 0)) (L':=(bA 16 1)) 0 rfl rfl rfl rfl rfl Zbt (by decide +kernel) (by decide +kernel) ?_;(try refine' Zf))|(refine AT.takeF (L:=(bA 16 1)) (L':=(bA 16 3)) 1 rfl rfl rfl rfl rfl rfl rfl rfl Zbt (by decide +kernel) (by decide +kernel) ?_;(try refine' Zf))|(refine AT.takeF (L:=(bA 16 3)) (L':=(bA 16 67)) 6 rfl rfl rfl rfl rfl rfl rfl rfl Zbt (by decide +kernel) (by decide +kernel) ?_;(try refine' Zf))|refine AT.step (L:=(bA 16 67)) [2,7] (by decide +kernel) (by decide) (Z8 ⟨_,(bA 16 71),rfl,(by decide +kernel),?_⟩ ⟨_,(bA 16 195),rfl,(by decide +kernel),?_⟩)|refine AT.step (L:=(bA 16 195)) [2,8] (by decide +kernel) (by decide) (Z8 ⟨_,(bA 16 199),rfl,(by decide +kernel),?_⟩ ⟨_,(bA 16 451),rfl,(by decide +kernel),?_⟩)|refine AT.step (L:=(bA 16 451)) [2] (by decide +kernel) (by decide) (Zr ⟨_,(bA 16 455),rfl,(by decide +kernel),?_⟩)|refine AT.step (L:=(bA 16 455)) [3] (by decide +kernel) (by decide) (Zr ⟨_,(bA 16 463),rfl,(by decide +kernel),?_⟩)|refine AT.step (L:=(bA 16 463)) [4] (by decide +kernel) (by decide) (Zr ⟨_,(bA 16 479),rfl,(by decide +kernel),?_⟩)|refine AT.step (L:=(bA 16 479)) [5] (by decide +kernel) (by decide) (Zr ⟨_,(bA 16 511),rfl,(by decide +kernel),?_⟩)|(refine AT.takeM (L:=(bA 16 511)) (L':=(bA 16 1023)) 9 rfl rfl rfl rfl rfl Zbt (by decide +kernel) (by decide +kernel) ?_;(try refine' Zf))|refine AT.step (L:=(bA 16 199)) [3,8] (by decide +kernel) (by decide) (Z8 ⟨_,(bA 16 207),rfl,(by decide +kernel),?_⟩ ⟨_,(bA 16 455),rfl,(by decide +kernel),?_⟩)|refine AT.step (L:=(bA 16 207)) [4,8] (by decide +kernel) (by decide) (Z8 ⟨_,(bA 16 223),rfl,(by decide +kernel),?_⟩ ⟨_,(bA 16 463),rfl,(by decide +kernel),?_⟩)|refine AT.step (L:=(bA 16 223)) [5,8] (by decide +kernel) (by decide) (Z8 ⟨_,(bA 16 255),rfl,(by decide +kernel),?_⟩ ⟨_,(bA 16 479),rfl,(by decide +kernel),?_⟩)|refine AT.step (L:=(bA 16 255)) [8] (by decide +kernel) (by decide) (Zr ⟨_,(bA 16 511),rfl,(by decide +kernel),?_⟩)|refine AT.step (L:=(bA 16 71)) [3,7] (by decide +kernel) (by decide) (Z8 ⟨_,(bA 16 79),rfl,(by decide +kernel),?_⟩ ⟨_,(bA 16 199),rfl,(by decide +kernel),?_⟩)|refine AT.step (L:=(bA 16 79)) [4,7] (by decide +kernel) (by decide) (Z8 ⟨_,(bA 16 95),rfl,(by decide +kernel),?_⟩ ⟨_,(bA 16 207),rfl,(by decide +kernel),?_⟩)|refine AT.step (L:=(bA 16 95)) [5,7] (by decide +kernel) (by decide) (Z8 ⟨_,(bA 16 127),rfl,(by decide +kernel),?_⟩ ⟨_,(bA 16 223),rfl,(by decide +kernel),?_⟩)|refine AT.step (L:=(bA 16 127)) [7] (by decide +kernel) (by decide) (Zr ⟨_,(bA 16 255),rfl,(by decide +kernel),?_⟩))
 all_goals(apply_rules (newGoals:= .nonDependentOnly) only[dep];exact())):p:=h
open Zz5 Zuw Zux Zm in
theorem ZAV (out:List Int)(ho:out.length<=1000000000)(i:Ins)(hi:ZbM i) :
 AM Tryz.prog 132 [.ref 0 0 out.length 1,.agg (ZgV i),.int .i64 13] [(0,⟨true,Zi .u8 out⟩)] [] (fun v m=>v= .tup [.ref 6 0 (Zam out i 13).1.length 1,.bool (Zam out i 13).2]/\m=[(6,⟨true,Zi .u8 (Zam out i 13).1⟩)]):=by
 obtain⟨A,hA⟩: ∃A,Zam out i 13=A:=⟨_,rfl⟩
 rw[hA]
 obtain⟨h1,h2,h3,h4,h5,h6,h7⟩:=hi
 obtain⟨io,ia,ib,il,ih,ill⟩:=i
 simp only at h1 h2 h3 h4 h5 h6 h7
 unfold Zam at hA
 unfold ZgV
 simp only at hA
 have hps:True:=trivial
 have hjn:True:=trivial
 have hlo:List.take out.length out=out:=Yau
 have f1:IntKind.u8.wrap ia=ia%256:=Zj (k:= .u8) rfl _
 have f3:(out++[ia%256]).length=out.length+1:=by simp
 rw[if_neg (by decide),if_neg (by decide)]at hA
 subst hA
 refine AM.enter Tryz.func132 rfl (Yaa rfl) (fun pn=> ?_)
 simp only[Tryz.f132]
 have hsp:(decide (ia>=0)=true/\decide (0<=ia)=true)\/(decide (ia>=0)=false/\decide (0<=ia)=false):=by
  by_cases c:0<=ia
  ·exact .inl ⟨Yae c,Yae c⟩
  ·exact .inr ⟨Yaf c,Yaf c⟩
 have e4:decide (0<=ia/\ia<256)=(decide (0<=ia)&&decide (ia<256)):=Bool.decide_and ..
 have nx:=aI @f1 (aI @hlo trivial)
 refine' Zx3
 refine AW.drawT (L0:=(bA 16 0)) (by decide +kernel) Zjo ?_
 refine AT.via (bA 16 1023) 6 { n:=62,slots:=[(4,.ptr 4 0),(39,.ref 0 0 (out.length+1) 1),(43,.bool (decide (ia>=0)))],mem:=[(4,⟨false,[.int .i64 io,.int .i64 ia,.int .i64 ib,.int .u64 il,.int .u64 ih,.view ill.length 1 (Zi .i64 ill)]⟩),(0,⟨true,Zi .u8 (out++[ia%256])⟩)],lent:=[(0,none)] } ?_ (fun hmid=> ?_)
 ·skip --POST
  rcases hsp with⟨e1,e2⟩|⟨e1,e2⟩
  all_goals
   rw[e1]
   have nx:=aI @e1 (aI @e2 (aI @f3 trivial))
   refine' Zir
   all_goals try(repeat (first|refine QEq.mp (by assumption) ?_|simp only[Zbd,Go.Abs.blockQ,↓reduceIte,Nat.reduceEqDiff]))
   all_goals
    have nx:=aI @e1 (aI @e2 (aI @f3 trivial))
    refine' Zir
   all_goals first
    |exact⟨by rw[f3,e4,e2,Bool.true_and],rfl⟩
    |exact⟨by rw[f3,e4,e2,Bool.false_and],rfl⟩
    |exact⟨by rw[e4,e2,Bool.true_and],trivial⟩
    |exact⟨by rw[e4,e2,Bool.false_and],trivial⟩
    |exact⟨by rw[f3],rfl⟩
 have nx:=aI @f1 (aI @hlo trivial)
 refine' Znf
 all_goals
  refine AT.keep [4,39,43] [4,0] ?_
  first
   |exact hmid
end
end Go.Proofs.YtimhmpdfioihlaaGreatDoor
