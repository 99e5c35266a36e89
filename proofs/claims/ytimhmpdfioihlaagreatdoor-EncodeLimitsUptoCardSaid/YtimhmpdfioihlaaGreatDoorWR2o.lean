/- constant: what it appends to is lent to it. -/
import Derived.Test.YtimhmpdfioihlaaGreatDoorDP
import Derived.Test.YtimhmpdfioihlaaGreatDoorGPreV
import Derived.Test.YtimhmpdfioihlaaGreatDoorGV6
import Derived.Test.YtimhmpdfioihlaaGreatDoorGCB
import Derived.Test.YtimhmpdfioihlaaGreatDoorGRefpre
import Derived.Test.YtimhmpdfioihlaaGreatDoorGPU
import Derived.Test.YtimhmpdfioihlaaGreatDoorGWP
set_option linter.unusedSimpArgs false
set_option linter.unusedVariables false
set_option maxHeartbeats 12800000
namespace Go.Proofs.YtimhmpdfioihlaaGreatDoor
set_option maxRecDepth 20000
open Go Go.Abs Nat
attribute [local irreducible] AW AWL AC FW CW CWr IntKind.wrap
section
theorem ZCh (x:Int)(h: -9223372036854775808<=x/\x<=9223372036854775807):AC Tryz.prog 130 [.view 1 1 (Zi .i64 [x])] (fun r m=>r= .view (ZdD x).length 1 (Zi .u8 (ZdD x))/\m=[]):=by
 have:=(ZFc [x] (fun y hy=>by rw[List.mem_singleton.1 hy];simp only[Int.reducePow];omega) (by simp)).look (by simp[Zi])
 have e:Zfl [x]=ZdD x:=by simp[Zfl]
 rw[e]at this
 exact this
theorem ZHD (x:Int)(h:0<=x/\x<18446744073709551616):AC Tryz.prog 60 [.view 1 1 (Zi .u64 [x])] (fun r m=>r= .view (uB x).length 1 (Zi .u8 (uB x))/\m=[]):=by
 have:=(ZFb [x] (fun y hy=>by rw[List.mem_singleton.1 hy];exact⟨h.1,by simp only[Int.reducePow];omega⟩) (by simp)).look (by simp[Zi])
 have e:Zfk [x]=uB x:=by unfold uB;rw[Int.emod_eq_of_lt h.1 h.2];simp[Zfk]
 rw[e]at this
 exact this
theorem ZFn.NM:type_of% @MB.NM/\type_of% @Zdn:=
 ⟨MB.NM,@Zdn⟩
open ZFn
theorem ZC1.att {p:Prop}(h:p:=by
 first
  |(first|(refine AT.takeM (L:=(bA 13 0)) (L':=(bA 13 1)) 0 rfl rfl rfl rfl rfl Zbt (by decide +kernel) (by decide +kernel) ?_;(try refine' Zf))|(refine AT.takeF (L:=(bA 13 1)) (L':=(bA 13 3)) 1 rfl rfl rfl rfl rfl rfl rfl rfl Zbt (by decide +kernel) (by decide +kernel) ?_;(try refine' Zf))|(refine AT.takeF (L:=(bA 13 3)) (L':=(bA 13 259)) 8 rfl rfl rfl rfl rfl rfl rfl rfl Zbt (by decide +kernel) (by decide +kernel) ?_;(try refine' Zf))|refine AT.step (L:=(bA 13 259)) [2,9] (by decide +kernel) (by decide) (Z8 ⟨_,(bA 13 263),rfl,(by decide +kernel),?_⟩ ⟨_,(bA 13 771),rfl,(by decide +kernel),?_⟩)|refine AT.step (L:=(bA 13 771)) [2,10] (by decide +kernel) (by decide) (Z8 ⟨_,(bA 13 775),rfl,(by decide +kernel),?_⟩ ⟨_,(bA 13 1795),rfl,(by decide +kernel),?_⟩)|refine AT.step (L:=(bA 13 1795)) [2] (by decide +kernel) (by decide) (Zr ⟨_,(bA 13 1799),rfl,(by decide +kernel),?_⟩)|refine AT.step (L:=(bA 13 1799)) [3] (by decide +kernel) (by decide) (Zr ⟨_,(bA 13 1807),rfl,(by decide +kernel),?_⟩)|refine AT.step (L:=(bA 13 1807)) [4] (by decide +kernel) (by decide) (Zr ⟨_,(bA 13 1823),rfl,(by decide +kernel),?_⟩)|refine AT.step (L:=(bA 13 1823)) [5] (by decide +kernel) (by decide) (Zr ⟨_,(bA 13 1855),rfl,(by decide +kernel),?_⟩)|refine AT.step (L:=(bA 13 1855)) [6] (by decide +kernel) (by decide) (Zr ⟨_,(bA 13 1919),rfl,(by decide +kernel),?_⟩)|refine AT.step (L:=(bA 13 1919)) [7] (by decide +kernel) (by decide) (Zr ⟨_,(bA 13 2047),rfl,(by decide +kernel),?_⟩)|refine AT.step (L:=(bA 13 2047)) [11] (by decide +kernel) (by decide) (Zr ⟨_,(bA 13 4095),rfl,(by decide +kernel),?_⟩)|refine AT.step (L:=(bA 13 4095)) [12] (by decide +kernel) (by decide) (Zr ⟨_,(bA 13 8191),rfl,(by decide +kernel),?_⟩)|refine AT.done (L:=(bA 13 8191)) (by decide +kernel) ?_|refine AT.step (L:=(bA 13 775)) [3,10] (by decide +kernel) (by decide) (Z8 ⟨_,(bA 13 783),rfl,(by decide +kernel),?_⟩ ⟨_,(bA 13 1799),rfl,(by decide +kernel),?_⟩)|refine AT.step (L:=(bA 13 783)) [4,10] (by decide +kernel) (by decide) (Z8 ⟨_,(bA 13 799),rfl,(by decide +kernel),?_⟩ ⟨_,(bA 13 1807),rfl,(by decide +kernel),?_⟩)|refine AT.step (L:=(bA 13 799)) [5,10] (by decide +kernel) (by decide) (Z8 ⟨_,(bA 13 831),rfl,(by decide +kernel),?_⟩ ⟨_,(bA 13 1823),rfl,(by decide +kernel),?_⟩)|refine AT.step (L:=(bA 13 831)) [6,10] (by decide +kernel) (by decide) (Z8 ⟨_,(bA 13 895),rfl,(by decide +kernel),?_⟩ ⟨_,(bA 13 1855),rfl,(by decide +kernel),?_⟩)|refine AT.step (L:=(bA 13 895)) [7,10] (by decide +kernel) (by decide) (Z8 ⟨_,(bA 13 1023),rfl,(by decide +kernel),?_⟩ ⟨_,(bA 13 1919),rfl,(by decide +kernel),?_⟩)|refine AT.step (L:=(bA 13 1023)) [10,11] (by decide +kernel) (by decide) (Z8 ⟨_,(bA 13 2047),rfl,(by decide +kernel),?_⟩ ⟨_,(bA 13 3071),rfl,(by decide +kernel),?_⟩)|refine AT.step (L:=(bA 13 3071)) [10] (by decide +kernel) (by decide) (Zr ⟨_,(bA 13 4095),rfl,(by decide +kernel),?_⟩)|refine AT.step (L:=(bA 13 263)) [3,9] (by decide +kernel) (by decide) (Z8 ⟨_,(bA 13 271),rfl,(by decide +kernel),?_⟩ ⟨_,(bA 13 775),rfl,(by decide +kernel),?_⟩)|refine AT.step (L:=(bA 13 271)) [4,9] (by decide +kernel) (by decide) (Z8 ⟨_,(bA 13 287),rfl,(by decide +kernel),?_⟩ ⟨_,(bA 13 783),rfl,(by decide +kernel),?_⟩)|refine AT.step (L:=(bA 13 287)) [5,9] (by decide +kernel) (by decide) (Z8 ⟨_,(bA 13 319),rfl,(by decide +kernel),?_⟩ ⟨_,(bA 13 799),rfl,(by decide +kernel),?_⟩)|refine AT.step (L:=(bA 13 319)) [6,9] (by decide +kernel) (by decide) (Z8 ⟨_,(bA 13 383),rfl,(by decide +kernel),?_⟩ ⟨_,(bA 13 831),rfl,(by decide +kernel),?_⟩)|refine AT.step (L:=(bA 13 383)) [7,9] (by decide +kernel) (by decide) (Z8 ⟨_,(bA 13 511),rfl,(by decide +kernel),?_⟩ ⟨_,(bA 13 895),rfl,(by decide +kernel),?_⟩)|refine AT.step (L:=(bA 13 511)) [9,11] (by decide +kernel) (by decide) (Z8 ⟨_,(bA 13 1023),rfl,(by decide +kernel),?_⟩ ⟨_,(bA 13 2559),rfl,(by decide +kernel),?_⟩)|refine AT.step (L:=(bA 13 2559)) [9] (by decide +kernel) (by decide) (Zr ⟨_,(bA 13 3071),rfl,(by decide +kernel),?_⟩))
 all_goals(apply_rules (newGoals:= .nonDependentOnly) only[dep];exact())):p:=h
open ZC1 Zuw Zux Zm in
theorem ZC2 (out:List Int)(ho:out.length<=1000000000)(i:Ins)(hi:ZbM i)(form:Int)(h13:form≠13) :
 AM Tryz.prog 132 [.ref 0 0 out.length 1,.agg (ZgV i),.int .i64 form] [(0,⟨true,Zi .u8 out⟩)] [] (fun v m=>v= .tup [.ref 6 0 (Zam out i form).1.length 1,.bool (Zam out i form).2]/\m=[(6,⟨true,Zi .u8 (Zam out i form).1⟩)]):=by
 obtain⟨A,hA⟩: ∃A,Zam out i form=A:=⟨_,rfl⟩
 rw[hA]
 obtain⟨h1,h2,h3,h4,h5,h6,h7⟩:=hi
 obtain⟨io,ia,ib,il,ih,ill⟩:=i
 simp only at h1 h2 h3 h4 h5 h6 h7
 unfold Zam at hA
 unfold ZgV
 simp only at hA
 have hps:True:=trivial
 have hjn:True:=trivial
 have f1:True:=trivial
 have f2:True:=trivial
 have f3:True:=trivial
 have hjl:True:=trivial
 have hz:List.drop 16 [V.int .u8 0,.int .u8 0,.int .u8 0,.int .u8 0,.int .u8 0,.int .u8 0,.int .u8 0,.int .u8 0,.int .u8 0,.int .u8 0,.int .u8 0,.int .u8 0,.int .u8 0,.int .u8 0,.int .u8 0,.int .u8 0]=[]:=rfl
 have hlo:List.take out.length out=out:=Yau
 have hcs:form=9\/form=10\/form=14\/(form≠9/\form≠10/\form≠13/\form≠14):=by omega
 rcases hcs with rfl|rfl|rfl|⟨g1,g2,g3,g4⟩
 case' inl=>
  rw[if_pos rfl]at hA
  have hb:=ZAT il
  have f1:IntKind.i64.wrap (i32 il)=i32 il:=Zc _ (by omega) (by omega)
  have f2:IntKind.i32.wrap il=i32 il:=rfl
  have hps:=ZCh (i32 il) (by omega)
  have hpl:=Zc7 9 (i32 il) (by simp only[Nat.reduceMul,Int.reducePow,Int.reduceMul];omega)
  have f3:(out++ZdD (i32 il)).length=out.length+(ZdD (i32 il)).length:=Yal
 case' inr.inl=>
  rw[if_neg (by decide),if_pos rfl]at hA
  have hb:=ZAU il
  have f2:IntKind.i64.wrap il=i64 il:=rfl
  have hps:=ZCh (i64 il) (by omega)
  have hpl:=Zc7 9 (i64 il) (by simp only[Nat.reduceMul,Int.reducePow,Int.reduceMul];omega)
  have f3:(out++ZdD (i64 il)).length=out.length+(ZdD (i64 il)).length:=Yal
 case' inr.inr.inl=>
  rw[if_neg (by decide),if_neg (by decide),if_neg (by decide),if_pos rfl]at hA
  have f3:(out++[(0:Int)]).length=out.length+1:=by simp
 case' inr.inr.inr=>
  rw[if_neg g1,if_neg g2,if_neg g3,if_neg g4]at hA
  have hjl:(join il ih).length=16:=by unfold join;rw[Yal,Zch,Zch]
  have hjn:=ZAP il ih h4.1 h5.1
  generalize join il ih=w at hA hjl hjn
  have f3:(out++w).length=out.length+16:=by rw[Yal,hjl]
  have f1:List.take 16 w=w:=Yad (by omega)
 all_goals
  subst hA
  refine AM.enter Tryz.func132 rfl (Yaa rfl) (fun pn=> ?_)
  simp only[Tryz.f132]
  have nx:=aI @f1 (aI @f2 (aI @hlo (aI @hjl (aI @hz trivial))))
  refine' ZxR
  try
   (first|refine AW.drawT (L0:=(bA 13 0)) (by decide +kernel) Zjo ?_|refine AW.drawT (L0:=(bA 16 0)) (by decide +kernel) Zjo ?_)
  have nx:=aI @f1 (aI @f2 (aI @hlo (aI @hjl (aI @hz trivial))))
  refine' Zir
  all_goals try(repeat (first|refine QEq.mp (by assumption) ?_|simp only[Zbd,Go.Abs.blockQ,↓reduceIte,Nat.reduceEqDiff]))
  all_goals
   have nx:=aI @f1 (aI @f2 (aI @hlo (aI @hjl (aI @hz trivial))))
   refine' Zir
  all_goals first
   |exact⟨by rw[f3],rfl⟩
   |exact⟨by rw[f3],trivial⟩
end
end Go.Proofs.YtimhmpdfioihlaaGreatDoor
