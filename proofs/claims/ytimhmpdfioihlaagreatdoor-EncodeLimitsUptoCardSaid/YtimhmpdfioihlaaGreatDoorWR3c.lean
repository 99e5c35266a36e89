/- put, form 8. -/
import Derived.Test.YtimhmpdfioihlaaGreatDoorDP
import Derived.Test.YtimhmpdfioihlaaGreatDoorGPreV
import Derived.Test.YtimhmpdfioihlaaGreatDoorGV6
import Derived.Test.YtimhmpdfioihlaaGreatDoorGCB
import Derived.Test.YtimhmpdfioihlaaGreatDoorGRefpre
import Derived.Test.YtimhmpdfioihlaaGreatDoorGLook
import Derived.Test.YtimhmpdfioihlaaGreatDoorWR1
import Derived.Test.YtimhmpdfioihlaaGreatDoorGEN6
set_option linter.unusedSimpArgs false
set_option linter.unusedVariables false
set_option maxHeartbeats 12800000
namespace Go.Proofs.YtimhmpdfioihlaaGreatDoor
set_option maxRecDepth 20000
open Go Go.Abs Nat
attribute [local irreducible] AW AWL AC FW CW CWr IntKind.wrap
section
theorem ZFQ.NM:type_of% @MB.NM/\type_of% @ZhR.eq_1/\type_of% @T8w.eq_1/\type_of% @S1w.eq_1/\type_of% @S2w.eq_1:=
 ⟨MB.NM,@ZhR.eq_1,@T8w.eq_1,@S1w.eq_1,@S2w.eq_1⟩
open ZFQ
theorem Zh6 {p:Prop}(h:p:=by
 repeat' (first
  |((with_reducible show AW _ _ _ _);first|((first|refine AW.seqA ?_|refine AW.blockA ?_);intro Qn hQn hPn))
  |((with_reducible first|show AWL _ _ _ _ _|show AW _ _ _ _);(first|refine AWL.nil ?_|refine AW.skip ?_|refine AW.ret ?_|refine AW.exit ?_);(repeat (first|refine QEq.mp (by assumption) ?_|simp only[Zbd,Go.Abs.blockQ,↓reduceIte,Nat.reduceEqDiff])))
  |((first
   |((with_reducible show AWL _ _ _ _ _);first|refine AWL.opN (sl:=SL) rfl rfl rfl trivial ?_|(refine AWL.op (sl:=SL) rfl rfl ?_ ?_)|(refine AWL.ptrNil rfl rfl rfl rfl rfl rfl (by kernel_rfl) ?_)|(refine AWL.sliceNil rfl rfl rfl rfl rfl (by kernel_rfl) ?_ ?_;(focus (first|exact trivial|exact Zi8));(intro r hr;cases r<;>first|(have hr:=hr rfl)|(clear hr)))|(refine AWL.guard2 rfl rfl rfl rfl rfl rfl ?_ ?_<;>(intro hc;(try simp only[Bool.not_true,Bool.not_false]at hc);first|(cases hc;done)|((try simp only[hc]);(try simp only[HCX]at hc);(try(exfalso;omega));(try(guard_hyp hc:True;clear hc)))))|refine AWL.guardU rfl rfl rfl rfl rfl rfl ?_|refine' cl)
   |((with_reducible show AW _ _ _ _);first|((show AW _ (.region _ _ false) _ _);refine kp ?_;refine AW.region ?_))
   |((with_reducible show AT _ _ _ _ _ _);refine' att2))<;>(try((first|with_reducible (first|show AWL _ _ _ _ _|show AW _ _ _ _|show DQ _ _ _ _ _ _)|(rintro _ _ ⟨rfl,rfl⟩;(try refine And.intro rfl ?_)));(try refine' Zf))))
  |((with_reducible show AW _ _ _ _);first|(refine AW.cond rfl (fun hc=> ?_) (fun hc=> ?_)<;>first|(cases hc;done)|((try simp only[HCX]at hc);(try(exfalso;omega));(try(guard_hyp hc:True;clear hc)))))
  |((with_reducible show True);exact trivial)|((with_reducible show ATQ _ _ _ _);show AT _ _ _ _ _ _)
  |((refine Zf4.mk rfl rfl rfl ?_ ?_ ?_;(focus (first|exact Or.inl rfl|exact Or.inr rfl)))<;>(try simp(disch:=omega) only[NM,Nat.reduceBEq,reduceAdd,reduceMul,Int.reduceToNat,reduceSub,List.set_cons_zero,List.set_cons_succ,nx]))
  |exact sd
  |fail)
 all_goals(try clear nx)
 all_goals(apply_rules (newGoals:= .nonDependentOnly) only[dep];exact())):p:=h
theorem ZvH.cl {p:Prop}(h:p:=by
 first
  |refine AWL.frzG rfl rfl rfl ?_
  |refine AWL.cC (f:=128) ZjZ rfl rfl rfl rfl rfl rfl (hof) ?_
  |refine AWL.cC (f:=129) ZkR rfl rfl rfl rfl rfl rfl (hre) ?_
  |refine AWL.cC (f:=60) Zkn rfl rfl rfl rfl rfl rfl (hpu) ?_
  |refine AWL.cC (f:=60) Zkn rfl rfl rfl rfl rfl rfl (hpb) ?_
  |refine AWL.cC (f:=131) Ze2 rfl rfl rfl rfl rfl rfl (hna) ?_
  |refine AWL.cC (f:=131) Ze2 rfl rfl rfl rfl rfl rfl (hnb) ?_
 all_goals(apply_rules (newGoals:= .nonDependentOnly) only[dep];exact())):p:=h
theorem ZvH.att {p:Prop}(h:p:=by
 first
  |(first|refine AT.step (L:=(bA 10 511)) [9] (by decide +kernel) (by decide) (Zr ⟨_,(bA 10 1023),rfl,(by decide +kernel),?_⟩)|(refine AT.done (L:=(bA 10 1023)) (by decide +kernel) ?_;(repeat (first|refine QEq.mp (by assumption) ?_|simp only[Zbd,Go.Abs.blockQ,↓reduceIte,Nat.reduceEqDiff])))|refine AT.step (L:=(bA 21 1023)) [10] (by decide +kernel) (by decide) (Zr ⟨_,(bA 21 2047),rfl,(by decide +kernel),?_⟩)|refine AT.step (L:=(bA 21 2047)) [11] (by decide +kernel) (by decide) (Zr ⟨_,(bA 21 4095),rfl,(by decide +kernel),?_⟩)|refine AT.step (L:=(bA 21 4095)) [12] (by decide +kernel) (by decide) (Zr ⟨_,(bA 21 8191),rfl,(by decide +kernel),?_⟩)|refine AT.step (L:=(bA 21 8191)) [13] (by decide +kernel) (by decide) (Zr ⟨_,(bA 21 16383),rfl,(by decide +kernel),?_⟩)|(refine AT.takeM (L:=(bA 21 16383)) (L':=(bA 21 32767)) 14 rfl rfl rfl rfl rfl Zbt (by decide +kernel) (by decide +kernel) ?_;(try refine' Zf))|refine AT.step (L:=(bA 21 32767)) [15,19] (by decide +kernel) (by decide) (Z8 ⟨_,(bA 21 65535),rfl,(by decide +kernel),?_⟩ ⟨_,(bA 21 557055),rfl,(by decide +kernel),?_⟩)|refine AT.step (L:=(bA 21 557055)) [15] (by decide +kernel) (by decide) (Zr ⟨_,(bA 21 589823),rfl,(by decide +kernel),?_⟩)|refine AT.step (L:=(bA 21 589823)) [16] (by decide +kernel) (by decide) (Zr ⟨_,(bA 21 655359),rfl,(by decide +kernel),?_⟩)|refine AT.step (L:=(bA 21 655359)) [17] (by decide +kernel) (by decide) (Zr ⟨_,(bA 21 786431),rfl,(by decide +kernel),?_⟩)|refine AT.step (L:=(bA 21 786431)) [18] (by decide +kernel) (by decide) (Zr ⟨_,(bA 21 1048575),rfl,(by decide +kernel),?_⟩)|refine AT.step (L:=(bA 21 1048575)) [20] (by decide +kernel) (by decide) (Zr ⟨_,(bA 21 2097151),rfl,(by decide +kernel),?_⟩)|(refine AT.done (L:=(bA 21 2097151)) (by decide +kernel) ?_;(repeat (first|refine QEq.mp (by assumption) ?_|simp only[Zbd,Go.Abs.blockQ,↓reduceIte,Nat.reduceEqDiff])))|refine AT.step (L:=(bA 21 65535)) [16,19] (by decide +kernel) (by decide) (Z8 ⟨_,(bA 21 131071),rfl,(by decide +kernel),?_⟩ ⟨_,(bA 21 589823),rfl,(by decide +kernel),?_⟩)|refine AT.step (L:=(bA 21 131071)) [17,19] (by decide +kernel) (by decide) (Z8 ⟨_,(bA 21 262143),rfl,(by decide +kernel),?_⟩ ⟨_,(bA 21 655359),rfl,(by decide +kernel),?_⟩)|refine AT.step (L:=(bA 21 262143)) [18,19] (by decide +kernel) (by decide) (Z8 ⟨_,(bA 21 524287),rfl,(by decide +kernel),?_⟩ ⟨_,(bA 21 786431),rfl,(by decide +kernel),?_⟩)|refine AT.step (L:=(bA 21 524287)) [19] (by decide +kernel) (by decide) (Zr ⟨_,(bA 21 1048575),rfl,(by decide +kernel),?_⟩))
 all_goals(apply_rules (newGoals:= .nonDependentOnly) only[dep];exact())):p:=h
theorem ZvH.att2 {p:Prop}(h:p:=by
 first
  |(first|(refine AT.takeM (L:=(bA 10 0)) (L':=(bA 10 1)) 0 rfl rfl rfl rfl rfl Zbt (by decide +kernel) (by decide +kernel) ?_;(try refine' Zf))|(refine AT.takeM (L:=(bA 10 1)) (L':=(bA 10 3)) 1 rfl rfl rfl rfl rfl Zbt (by decide +kernel) (by decide +kernel) ?_;(try refine' Zf))|(refine AT.takeF (L:=(bA 10 3)) (L':=(bA 10 11)) 3 rfl rfl rfl rfl rfl rfl rfl rfl Zbt (by decide +kernel) (by decide +kernel) ?_;(try refine' Zf))|refine AT.step (L:=(bA 10 11)) [2,4] (by decide +kernel) (by decide) (Z8 ⟨_,(bA 10 15),rfl,(by decide +kernel),?_⟩ ⟨_,(bA 10 27),rfl,(by decide +kernel),?_⟩)|(refine AT.takeC (L:=(bA 10 27)) (L':=(bA 10 59)) 5 rfl rfl rfl rfl rfl rfl rfl rfl Zbt (by decide +kernel) (by decide +kernel) ?_;(try refine' Zf))|refine AT.step (L:=(bA 10 59)) [2,6] (by decide +kernel) (by decide) (Z8 ⟨_,(bA 10 63),rfl,(by decide +kernel),?_⟩ ⟨_,(bA 10 123),rfl,(by decide +kernel),?_⟩)|refine AT.step (L:=(bA 10 123)) [2] (by decide +kernel) (by decide) (Zr ⟨_,(bA 10 127),rfl,(by decide +kernel),?_⟩)|refine AT.step (L:=(bA 10 127)) [7] (by decide +kernel) (by decide) (Zr ⟨_,(bA 10 255),rfl,(by decide +kernel),?_⟩)|refine AT.step (L:=(bA 10 255)) [8] (by decide +kernel) (by decide) (Zr ⟨_,(bA 10 511),rfl,(by decide +kernel),?_⟩)|refine AT.step (L:=(bA 10 63)) [6] (by decide +kernel) (by decide) (Zr ⟨_,(bA 10 127),rfl,(by decide +kernel),?_⟩)|refine AT.step (L:=(bA 10 15)) [4] (by decide +kernel) (by decide) (Zr ⟨_,(bA 10 31),rfl,(by decide +kernel),?_⟩)|(refine AT.takeC (L:=(bA 10 31)) (L':=(bA 10 63)) 5 rfl rfl rfl rfl rfl rfl rfl rfl Zbt (by decide +kernel) (by decide +kernel) ?_;(try refine' Zf))|(refine AT.takeM (L:=(bA 21 0)) (L':=(bA 21 1)) 0 rfl rfl rfl rfl rfl Zbt (by decide +kernel) (by decide +kernel) ?_;(try refine' Zf))|(refine AT.takeF (L:=(bA 21 1)) (L':=(bA 21 3)) 1 rfl rfl rfl rfl rfl rfl rfl rfl Zbt (by decide +kernel) (by decide +kernel) ?_;(try refine' Zf))|(refine AT.takeF (L:=(bA 21 3)) (L':=(bA 21 67)) 6 rfl rfl rfl rfl rfl rfl rfl rfl Zbt (by decide +kernel) (by decide +kernel) ?_;(try refine' Zf))|refine AT.step (L:=(bA 21 67)) [2,7] (by decide +kernel) (by decide) (Z8 ⟨_,(bA 21 71),rfl,(by decide +kernel),?_⟩ ⟨_,(bA 21 195),rfl,(by decide +kernel),?_⟩)|refine AT.step (L:=(bA 21 195)) [2] (by decide +kernel) (by decide) (Zr ⟨_,(bA 21 199),rfl,(by decide +kernel),?_⟩)|(refine AT.takeC (L:=(bA 21 199)) (L':=(bA 21 207)) 3 rfl rfl rfl rfl rfl rfl rfl rfl Zbt (by decide +kernel) (by decide +kernel) ?_;(try refine' Zf))|refine AT.step (L:=(bA 21 207)) [4] (by decide +kernel) (by decide) (Zr ⟨_,(bA 21 223),rfl,(by decide +kernel),?_⟩)|refine AT.step (L:=(bA 21 223)) [5] (by decide +kernel) (by decide) (Zr ⟨_,(bA 21 255),rfl,(by decide +kernel),?_⟩)|refine AT.step (L:=(bA 21 255)) [8] (by decide +kernel) (by decide) (Zr ⟨_,(bA 21 511),rfl,(by decide +kernel),?_⟩)|(refine AT.takeM (L:=(bA 21 511)) (L':=(bA 21 1023)) 9 rfl rfl rfl rfl rfl Zbt (by decide +kernel) (by decide +kernel) ?_;(try refine' Zf))|(refine AT.takeC (L:=(bA 21 71)) (L':=(bA 21 79)) 3 rfl rfl rfl rfl rfl rfl rfl rfl Zbt (by decide +kernel) (by decide +kernel) ?_;(try refine' Zf))|refine AT.step (L:=(bA 21 79)) [4,7] (by decide +kernel) (by decide) (Z8 ⟨_,(bA 21 95),rfl,(by decide +kernel),?_⟩ ⟨_,(bA 21 207),rfl,(by decide +kernel),?_⟩)|refine AT.step (L:=(bA 21 95)) [5,7] (by decide +kernel) (by decide) (Z8 ⟨_,(bA 21 127),rfl,(by decide +kernel),?_⟩ ⟨_,(bA 21 223),rfl,(by decide +kernel),?_⟩)|refine AT.step (L:=(bA 21 127)) [7] (by decide +kernel) (by decide) (Zr ⟨_,(bA 21 255),rfl,(by decide +kernel),?_⟩))
 all_goals(apply_rules (newGoals:= .nonDependentOnly) only[dep];exact())):p:=h
open ZvH ZoE Zm in
theorem ZHQ (i:Ins)(hi:ZbM i)(hok:(ofS i.op).2=true/\ZdT i (ofS i.op).1.1=true)(h4:(ofS i.op).1.1=8) :
 AC Tryz.prog 107 [.agg (ZgV i)] (fun v m=>ZAd (Zdo i) v m):=by
 obtain⟨A,hA⟩: ∃A,Zdo i=A:=⟨_,rfl⟩
 rw[hA]
 obtain⟨z,hz⟩: ∃z,ofS i.op=z:=⟨_,rfl⟩
 have hof:=ZjD i.op
 have hre:=Zlo i z.1.1 hi.n
 have hpu:=ZoV (i.op-64768)
 have hpb:=ZoV i.a
 have hps:True:=trivial
 have hna:True:=trivial
 have hnb:True:=trivial
 have f1:True:=trivial
 have f2:True:=trivial
 have f3:True:=trivial
 unfold Zdo at hA
 have hop1:=hi.op
 have hol:=Zlz i.op
 have hal:=ZcU i.a
 have e1:IntKind.u8.wrap i.op=i.op%256:=Zj (k:= .u8) rfl _
 have e3:IntKind.u64.wrap i.a=i.a%18446744073709551616:=Zj (k:= .u64) rfl _
 have e4:IntKind.u64.wrap i.b=i.b%18446744073709551616:=Zj (k:= .u64) rfl _
 rw[hz]at hof hA h4 hok
 unfold ZAd
 obtain⟨B,hB⟩: ∃B,ZdT i z.1.1=B:=⟨_,rfl⟩
 rw[hB]at hre hA hok
 obtain⟨z1,z2⟩:=z
 simp only at hof hre hA h4 hok
 unfold ZgV at hre ⊢
 refine AC.enter Tryz.func107 rfl (Yaa rfl) ?_
 simp only[Tryz.f107]
 rw[if_pos hok]at hA
 obtain⟨rfl,rfl⟩:=hok
 clear hz
 have nx:=aI @e1 trivial
 refine' Zqf
 rename_i Qm hQm hPm
 have hrest: ∀s:St,s.keep [1,4,5,6] [1,4,6]=T8w i z1 (opB i.op)->Qm .normal s:=by
  clear hof hre hpu
  intro s hs
  refine QEq.mp hQm ?_
  simp only[Zbd,Go.Abs.blockQ,↓reduceIte,Nat.reduceEqDiff]
  refine AW.keep [1,4,5,6] [1,4,6] ?_
  rw[hs]
  unfold Zif at hA
  generalize opB i.op=o at hol hA
  have hlo:List.take o.length o=o:=Yau
  have hna:=ZeM i.a
  have hnb:=ZeM i.b
  have hps:=ZCh i.a hi.a
  have hpl:=Zc7 9 i.a (by have:=hi.a;simp only[Nat.reduceMul,Int.reducePow,Int.reduceMul];omega)
  have hpu:=ZoV i.b
  have hbl:=ZcU i.b
  have sp1:Zcu i.a=true\/Zcu i.a=false:=by cases Zcu i.a<;>simp
  have sp2:Zcu i.b=true\/Zcu i.b=false:=by cases Zcu i.b<;>simp
  have e10:IntKind.u8.wrap i.lo=i.lo%256:=Zj (k:= .u8) rfl _
  have hl2:List.take (o.length+(uB i.a).length+(uB i.b).length) (o++uB i.a++uB i.b)=o++uB i.a++uB i.b:=by rw[<- Yal,<- Yal,Yau]
  rw[if_neg (by omega),if_neg (by omega),if_neg (by omega),if_neg (by omega)]at hA
  rw[if_neg (by omega)]at hA
  have h8:z1.1=8:=h4
  ·rw[if_pos h8]at hA
   subst hA
   have nx:=aI @h8 (aI @e3 (aI @e4 trivial))
   refine' ZxL
   all_goals
    refine AW.drawT (L0:=(bA 10 0)) (by decide +kernel) Zjo ?_
    refine AT.via (bA 10 511) 1 (S1w 158 i (o.length+(uB i.a).length+(uB i.b).length) (o++uB i.a++uB i.b)) ?_ (fun hmid=> ?_)
    ·skip --POST
     have nx:=trivial
     refine' ZxJ
     refine AW.drawT (L0:=(bA 21 0)) (by decide +kernel) Zjo ?_
     refine AT.via (bA 21 1023) 11 (S2w 164 168 (Zcu i.a) i (o.length+(uB i.a).length+(uB i.b).length+1) (o++uB i.a++uB i.b++[i.lo%256])) ?_ (fun hmid=> ?_)
     ·skip --POST
      rcases sp1 with e8|e8<;>rcases sp2 with e9|e9
      all_goals
       rw[e8]
       have nx:=aI @e8 (aI @e9 trivial)
       refine' ZxU
       all_goals first
        |(refine .inr ⟨2,?_,rfl⟩;simp only[e8,e9,Bool.true_and,Bool.false_and,Yal,Yag,List.length_nil];done)
     have nx:=aI @hl2 (aI @e10 (aI @e4 trivial))
     refine' Zh6
     all_goals
      refine AT.keep [1,164,168] [1,6] ?_
      first
       |exact hmid
    have nx:=aI @hlo (aI @e4 trivial)
    refine' Zh6
    all_goals
     refine AT.keep [1,158] [1,6] ?_
     first
      |exact hmid
 clear hQm
 by_cases hbig:i.op>=64768
 ·have e2:IntKind.u64.wrap (i.op-64768)=(i.op-64768)%18446744073709551616:=Zj (k:= .u64) rfl _
  have e5:IntKind.i64.wrap (i.op-64768)=i.op-64768:=Zc _ (by omega) (by omega)
  have hob:opB i.op=253::uB (i.op-64768):=if_pos hbig
  have hou:=ZcU (i.op-64768)
  have nx:=aI @e2 (aI @e5 trivial)
  refine' Zev
  all_goals first
   |exact hrest _ (by rw[hob];rfl)
   |exact hrest _ (by rw[hob,T8w,show(253::uB (i.op-64768)).length=1+(uB (i.op-64768)).length by simp only[Yag];omega];rfl)
 ·have hob:opB i.op=[i.op%256]:=if_neg hbig
  have nx:=trivial
  refine' Zev
  all_goals first
   |exact hrest _ (by rw[hob];rfl)
end
end Go.Proofs.YtimhmpdfioihlaaGreatDoor
