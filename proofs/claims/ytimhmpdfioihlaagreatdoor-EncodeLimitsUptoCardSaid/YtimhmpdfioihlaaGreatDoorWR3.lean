/- put, but for tables. -/
import Derived.Test.YtimhmpdfioihlaaGreatDoorDP
import Derived.Test.YtimhmpdfioihlaaGreatDoorGPreV
import Derived.Test.YtimhmpdfioihlaaGreatDoorGV6
import Derived.Test.YtimhmpdfioihlaaGreatDoorGCB
import Derived.Test.YtimhmpdfioihlaaGreatDoorWR3b
import Derived.Test.YtimhmpdfioihlaaGreatDoorWR3c
import Derived.Test.YtimhmpdfioihlaaGreatDoorGRowInt
set_option linter.unusedSimpArgs false
set_option linter.unusedVariables false
set_option maxHeartbeats 12800000
namespace Go.Proofs.YtimhmpdfioihlaaGreatDoor
set_option maxRecDepth 20000
open Go Go.Abs Nat
attribute [local irreducible] AW AWL AC FW CW CWr IntKind.wrap
section
theorem ZHW.NM:type_of% @MB.NM/\type_of% @ZhR.eq_1/\type_of% @T8w.eq_1/\type_of% @S1w.eq_1/\type_of% @S2w.eq_1:=
 ⟨MB.NM,@ZhR.eq_1,@T8w.eq_1,@S1w.eq_1,@S2w.eq_1⟩
open ZHW
theorem ZjP {p:Prop}(h:p:=by
 repeat' (first
  |((with_reducible show AW _ _ _ _);first|((first|refine AW.seqA ?_|refine AW.blockA ?_);intro Qn hQn hPn))
  |((with_reducible show AWL _ _ _ _ _);refine AWL.lentD rfl rfl ?_;(try refine' Zf))
  |((with_reducible first|show AWL _ _ _ _ _|show AW _ _ _ _);(first|refine AWL.nil ?_|refine AW.skip ?_|refine AW.ret ?_|refine AW.exit ?_);(repeat (first|refine QEq.mp (by assumption) ?_|simp only[Zbd,Go.Abs.blockQ,↓reduceIte,Nat.reduceEqDiff])))
  |((first
   |((with_reducible show AWL _ _ _ _ _);first|refine AWL.opN (sl:=SL) rfl rfl rfl trivial ?_|(refine AWL.op (sl:=SL) rfl rfl ?_ ?_)|(refine AWL.ptrNil rfl rfl rfl rfl rfl rfl (by kernel_rfl) ?_)|(refine AWL.sliceNil rfl rfl rfl rfl rfl (by kernel_rfl) ?_ ?_;(focus (first|exact trivial|exact Zi8));(intro r hr;cases r<;>first|(have hr:=hr rfl)|(clear hr)))|(refine AWL.guard2 rfl rfl rfl rfl rfl rfl ?_ ?_<;>(intro hc;(try simp only[Bool.not_true,Bool.not_false]at hc);first|(cases hc;done)|((try simp only[hc]);(try simp only[HCX]at hc);(try(exfalso;omega));(try(guard_hyp hc:True;clear hc)))))|refine AWL.guardU rfl rfl rfl rfl rfl rfl ?_|refine' cl)
   |((with_reducible show AW _ _ _ _);first|((show AW _ (.region _ _ false) _ _);refine kp ?_;refine AW.region ?_))
   |((with_reducible show AT _ _ _ _ _ _);refine' att2))<;>(try((first|with_reducible (first|show AWL _ _ _ _ _|show AW _ _ _ _|show DQ _ _ _ _ _ _)|(rintro _ _ ⟨rfl,rfl⟩;(try refine And.intro (by kernel_rfl) ?_)));(try refine' Zf))))
  |((with_reducible show AW _ _ _ _);first|(refine AW.cond rfl (fun hc=> ?_) (fun hc=> ?_)<;>first|(cases hc;done)|((try simp only[HCX]at hc);(try(exfalso;omega));(try(guard_hyp hc:True;clear hc)))))
  |((with_reducible show True);exact trivial)|((with_reducible show ATQ _ _ _ _);show AT _ _ _ _ _ _)
  |((refine Zf4.mk rfl rfl rfl ?_ ?_ ?_;(focus (first|exact Or.inl rfl|exact Or.inr rfl)))<;>(try simp(disch:=omega) only[NM,Nat.reduceBEq,reduceAdd,reduceMul,Int.reduceToNat,reduceSub,List.set_cons_zero,List.set_cons_succ,nx]))
  |exact sd
  |fail)
 all_goals(try clear nx)
 all_goals(apply_rules (newGoals:= .nonDependentOnly) only[dep];exact())):p:=h
theorem ZB0.cl {p:Prop}(h:p:=by
 first
  |refine AWL.cM (f:=132) [(0,6)] ZEL rfl rfl rfl rfl rfl rfl rfl (hco) ?_
  |refine AWL.frzG rfl rfl rfl ?_
  |refine AWL.cC (f:=128) ZjZ rfl rfl rfl rfl rfl rfl (hof) ?_
  |refine AWL.cC (f:=129) ZkR rfl rfl rfl rfl rfl rfl (hre) ?_
  |refine AWL.cC (f:=60) Zkn rfl rfl rfl rfl rfl rfl (hpu) ?_
  |refine AWL.cC (f:=60) Zkn rfl rfl rfl rfl rfl rfl (hpb) ?_
  |refine AWL.cC (f:=130) ZCu rfl rfl rfl rfl rfl rfl (hps) ?_
  |refine AWL.cC (f:=131) Ze2 rfl rfl rfl rfl rfl rfl (hna) ?_
  |refine AWL.cC (f:=131) Ze2 rfl rfl rfl rfl rfl rfl (hnb) ?_
 all_goals(apply_rules (newGoals:= .nonDependentOnly) only[dep];exact())):p:=h
theorem ZB0.att {p:Prop}(h:p:=by
 first
  |(first|refine AT.step (L:=(bA 11 511)) [9] (by decide +kernel) (by decide) (Zr ⟨_,(bA 11 1023),rfl,(by decide +kernel),?_⟩)|refine AT.step (L:=(bA 11 1023)) [10] (by decide +kernel) (by decide) (Zr ⟨_,(bA 11 2047),rfl,(by decide +kernel),?_⟩)|(refine AT.done (L:=(bA 11 2047)) (by decide +kernel) ?_;(repeat (first|refine QEq.mp (by assumption) ?_|simp only[Zbd,Go.Abs.blockQ,↓reduceIte,Nat.reduceEqDiff])))|refine AT.step (L:=(bA 8 63)) [6] (by decide +kernel) (by decide) (Zr ⟨_,(bA 8 127),rfl,(by decide +kernel),?_⟩)|refine AT.step (L:=(bA 8 127)) [7] (by decide +kernel) (by decide) (Zr ⟨_,(bA 8 255),rfl,(by decide +kernel),?_⟩)|(refine AT.done (L:=(bA 8 255)) (by decide +kernel) ?_;(repeat (first|refine QEq.mp (by assumption) ?_|simp only[Zbd,Go.Abs.blockQ,↓reduceIte,Nat.reduceEqDiff]))))
 all_goals(apply_rules (newGoals:= .nonDependentOnly) only[dep];exact())):p:=h
theorem ZB0.att2 {p:Prop}(h:p:=by
 first
  |(first|(refine AT.takeM (L:=(bA 11 0)) (L':=(bA 11 1)) 0 rfl rfl rfl rfl rfl Zbt (by decide +kernel) (by decide +kernel) ?_;(try refine' Zf))|(refine AT.takeF (L:=(bA 11 1)) (L':=(bA 11 3)) 1 rfl rfl rfl rfl rfl rfl rfl rfl Zbt (by decide +kernel) (by decide +kernel) ?_;(try refine' Zf))|(refine AT.takeF (L:=(bA 11 3)) (L':=(bA 11 67)) 6 rfl rfl rfl rfl rfl rfl rfl rfl Zbt (by decide +kernel) (by decide +kernel) ?_;(try refine' Zf))|refine AT.step (L:=(bA 11 67)) [2,7] (by decide +kernel) (by decide) (Z8 ⟨_,(bA 11 71),rfl,(by decide +kernel),?_⟩ ⟨_,(bA 11 195),rfl,(by decide +kernel),?_⟩)|refine AT.step (L:=(bA 11 195)) [2] (by decide +kernel) (by decide) (Zr ⟨_,(bA 11 199),rfl,(by decide +kernel),?_⟩)|refine AT.step (L:=(bA 11 199)) [3] (by decide +kernel) (by decide) (Zr ⟨_,(bA 11 207),rfl,(by decide +kernel),?_⟩)|refine AT.step (L:=(bA 11 207)) [4] (by decide +kernel) (by decide) (Zr ⟨_,(bA 11 223),rfl,(by decide +kernel),?_⟩)|refine AT.step (L:=(bA 11 223)) [5] (by decide +kernel) (by decide) (Zr ⟨_,(bA 11 255),rfl,(by decide +kernel),?_⟩)|refine AT.step (L:=(bA 11 255)) [8] (by decide +kernel) (by decide) (Zr ⟨_,(bA 11 511),rfl,(by decide +kernel),?_⟩)|refine AT.step (L:=(bA 11 71)) [3,7] (by decide +kernel) (by decide) (Z8 ⟨_,(bA 11 79),rfl,(by decide +kernel),?_⟩ ⟨_,(bA 11 199),rfl,(by decide +kernel),?_⟩)|refine AT.step (L:=(bA 11 79)) [4,7] (by decide +kernel) (by decide) (Z8 ⟨_,(bA 11 95),rfl,(by decide +kernel),?_⟩ ⟨_,(bA 11 207),rfl,(by decide +kernel),?_⟩)|refine AT.step (L:=(bA 11 95)) [5,7] (by decide +kernel) (by decide) (Z8 ⟨_,(bA 11 127),rfl,(by decide +kernel),?_⟩ ⟨_,(bA 11 223),rfl,(by decide +kernel),?_⟩)|refine AT.step (L:=(bA 11 127)) [7] (by decide +kernel) (by decide) (Zr ⟨_,(bA 11 255),rfl,(by decide +kernel),?_⟩)|(refine AT.takeM (L:=(bA 8 0)) (L':=(bA 8 1)) 0 rfl rfl rfl rfl rfl Zbt (by decide +kernel) (by decide +kernel) ?_;(try refine' Zf))|(refine AT.takeM (L:=(bA 8 1)) (L':=(bA 8 3)) 1 rfl rfl rfl rfl rfl Zbt (by decide +kernel) (by decide +kernel) ?_;(try refine' Zf))|(refine AT.takeF (L:=(bA 8 3)) (L':=(bA 8 11)) 3 rfl rfl rfl rfl rfl rfl rfl rfl Zbt (by decide +kernel) (by decide +kernel) ?_;(try refine' Zf))|refine AT.step (L:=(bA 8 11)) [2,4] (by decide +kernel) (by decide) (Z8 ⟨_,(bA 8 15),rfl,(by decide +kernel),?_⟩ ⟨_,(bA 8 27),rfl,(by decide +kernel),?_⟩)|refine AT.step (L:=(bA 8 27)) [2] (by decide +kernel) (by decide) (Zr ⟨_,(bA 8 31),rfl,(by decide +kernel),?_⟩)|refine AT.step (L:=(bA 8 31)) [5] (by decide +kernel) (by decide) (Zr ⟨_,(bA 8 63),rfl,(by decide +kernel),?_⟩)|refine AT.step (L:=(bA 8 15)) [4] (by decide +kernel) (by decide) (Zr ⟨_,(bA 8 31),rfl,(by decide +kernel),?_⟩))
 all_goals(apply_rules (newGoals:= .nonDependentOnly) only[dep];exact())):p:=h
open ZB0 ZoE Zm in
theorem ZB1 (i:Ins)(hi:ZbM i) :
 AC Tryz.prog 107 [.agg (ZgV i)] (fun v m=>ZAd (Zdo i) v m):=by
 by_cases h4:((ofS i.op).2=true/\ZdT i (ofS i.op).1.1=true)/\(ofS i.op).1.1=4
 ·exact ZHS i hi h4.1 h4.2
 by_cases hg:((ofS i.op).2=true/\ZdT i (ofS i.op).1.1=true)/\((ofS i.op).1.1=6\/(ofS i.op).1.1=7\/(ofS i.op).1.1=8)
 ·exact hg.2.elim (fun h=>ZDz i hi hg.1 (.inl h)) (fun h=>h.elim (fun h=>ZDz i hi hg.1 (.inr h)) (fun h=>ZHQ i hi hg.1 h))
 obtain⟨A,hA⟩: ∃A,Zdo i=A:=⟨_,rfl⟩
 rw[hA]
 obtain⟨z,hz⟩: ∃z,ofS i.op=z:=⟨_,rfl⟩
 have hof:=ZjD i.op
 have hre:=Zlo i z.1.1 hi.n
 have hpu:=ZoV (i.op-64768)
 have hpb:=ZoV i.a
 have hps:True:=trivial
 have hna:True:=trivial
 have hnb:True:=trivial
 have hco:True:=trivial
 have f1:True:=trivial
 have f2:True:=trivial
 have f3:True:=trivial
 unfold Zdo at hA
 have hop1:=hi.op
 have hol:=Zlz i.op
 have hal:=ZcU i.a
 have e1:IntKind.u8.wrap i.op=i.op%256:=Zj (k:= .u8) rfl _
 have e3:IntKind.u64.wrap i.a=i.a%18446744073709551616:=Zj (k:= .u64) rfl _
 have e4:IntKind.u64.wrap i.b=i.b%18446744073709551616:=Zj (k:= .u64) rfl _
 rw[hz]at hof hA h4 hg
 unfold ZAd
 obtain⟨B,hB⟩: ∃B,ZdT i z.1.1=B:=⟨_,rfl⟩
 rw[hB]at hre hA hg h4
 obtain⟨z1,z2⟩:=z
 simp only at hof hre hA h4 hg
 have hco:=fun(o:List Int) (ho:o.length<=1000000000)=>ZyH o ho i hi z1.1
 unfold ZgV at hre hco ⊢
 refine AC.enter Tryz.func107 rfl (Yaa rfl) ?_
 simp only[Tryz.f107]
 by_cases hok:z2=true/\B=true
 case neg=>
  rw[if_neg hok]at hA
  subst hA
  have hcs:z2=false\/(z2=true/\B=false):=by
   cases z2 with
   |false=>exact .inl rfl
   |true=>cases B with
    |false=>exact .inr ⟨rfl,rfl⟩
    |true=>exact absurd ⟨rfl,rfl⟩ hok
  rcases hcs with rfl|⟨rfl,rfl⟩
  all_goals
   have nx:=trivial
   refine' ZfB
   all_goals first
    |exact .inr ⟨2,rfl,rfl⟩
 rw[if_pos hok]at hA
 have h4n:z1.1≠4:=fun h=>h4 ⟨hok,h⟩
 have hgn: ¬(z1.1=6\/z1.1=7\/z1.1=8):=fun h=>hg ⟨hok,h⟩
 obtain⟨rfl,rfl⟩:=hok
 clear hz
 have nx:=aI @e1 trivial
 refine' ZxW
 rename_i Qm hQm hPm
 have hrest: ∀s:St,s.keep [1,4,5,6] [1,4,6]=T8w i z1 (opB i.op)->Qm .normal s:=by
  clear hof hre hpu
  intro s hs
  refine QEq.mp hQm ?_
  simp only[Zbd,Go.Abs.blockQ,↓reduceIte,Nat.reduceEqDiff]
  refine AW.keep [1,4,5,6] [1,4,6] ?_
  rw[hs]
  have hco:=hco (opB i.op) (by omega)
  unfold Zif at hA
  generalize opB i.op=o at hol hA hco
  have hlo:List.take o.length o=o:=Yau
  have hna:=ZeM i.a
  have hnb:=ZeM i.b
  have hps:=ZCh i.a hi.a
  have hpl:=Zc7 9 i.a (by have:=hi.a;simp only[Nat.reduceMul,Int.reducePow,Int.reduceMul];omega)
  have hpu:=ZoV i.b
  have hbl:=ZcU i.b
  have sp1:Zcu i.a=true\/Zcu i.a=false:=by cases Zcu i.a<;>simp
  have sp2:Zcu i.b=true\/Zcu i.b=false:=by cases Zcu i.b<;>simp
  have e10:IntKind.u8.wrap i.lo=i.lo%256:=Zj (k:= .u8) rfl _
  have hl2:List.take (o.length+(uB i.a).length+(uB i.b).length) (o++uB i.a++uB i.b)=o++uB i.a++uB i.b:=by rw[<- Yal,<- Yal,Yau]
  by_cases h1:z1.1=1
  ·rw[if_pos h1]at hA
   subst hA
   have nx:=aI @h1 (aI @e3 trivial)
   refine' ZfB
   all_goals first
    |exact .inr ⟨2,rfl,rfl⟩
  rw[if_neg h1]at hA
  by_cases h2:z1.1=2
  ·rw[if_pos h2]at hA
   by_cases hs:i.a= -64\/i.a= -1\/i.a= -2\/i.a= -5
   ·rw[if_pos hs]at hA
    subst hA
    have e6:IntKind.i64.wrap (i.a+128)=i.a+128:=Zc _ (by omega) (by omega)
    have e7:IntKind.u8.wrap (i.a+128)=(i.a+128)%256:=Zj (k:= .u8) rfl _
    have nx:=aI @h2 (aI @e3 (aI @e6 (aI @e7 (aI @hlo trivial))))
    refine' ZfB
    all_goals first
     |exact .inr ⟨2,by rw[Yal];rfl,rfl⟩
   ·rw[if_neg hs]at hA
    subst hA
    have nx:=aI @h2 (aI @e3 trivial)
    refine' ZxI
    refine AW.drawT (L0:=(bA 11 0)) (by decide +kernel) Zjo ?_
    refine AT.via (bA 11 511) 2 (S2w 77 80 (Zcu i.a) i (o.length+(ZdD i.a).length) (o++ZdD i.a)) ?_ (fun hmid=> ?_)
    ·skip --POST
     have nx:=trivial
     refine' Zqh
     all_goals first
      |exact .inr ⟨2,by rw[Yal],rfl⟩
    have nx:=aI @hlo (aI @e4 trivial)
    refine' ZjP
    all_goals
     refine AT.keep [1,77,80] [1,6] ?_
     first
      |exact hmid
  rw[if_neg h2]at hA
  by_cases h3:z1.1=3\/z1.1=5
  ·rw[if_pos h3]at hA
   subst hA
   have nx:=aI @e3 trivial
   refine' Zx6
   all_goals
    refine AW.drawT (L0:=(bA 8 0)) (by decide +kernel) Zjo ?_
    refine AT.via (bA 8 63) 2 (S2w 86 89 (Zcu i.a) i (o.length+(uB i.a).length) (o++uB i.a)) ?_ (fun hmid=> ?_)
    ·skip --POST
     have nx:=trivial
     refine' Zqh
     all_goals first
      |exact .inr ⟨2,by rw[Yal],rfl⟩
    have nx:=aI @hlo (aI @e4 trivial)
    refine' ZjP
    all_goals
     refine AT.keep [1,86,89] [1,6] ?_
     first
      |exact hmid
  rw[if_neg h3,if_neg h4n]at hA
  have h6: ¬(z1.1=6\/z1.1=7):=by omega
  have h8: ¬z1.1=8:=by omega
  rw[if_neg h6]at hA
  rw[if_neg h8]at hA
  generalize Zam o i z1.1=y at hA hco
  obtain⟨y1,y2⟩:=y
  subst hA
  have nx:=aI @e3 trivial
  refine' ZfB
  all_goals first
   |exact .inr ⟨2,rfl,rfl⟩
 clear hQm
 by_cases hbig:i.op>=64768
 ·have e2:IntKind.u64.wrap (i.op-64768)=(i.op-64768)%18446744073709551616:=Zj (k:= .u64) rfl _
  have e5:IntKind.i64.wrap (i.op-64768)=i.op-64768:=Zc _ (by omega) (by omega)
  have hob:opB i.op=253::uB (i.op-64768):=if_pos hbig
  have hou:=ZcU (i.op-64768)
  have nx:=aI @e2 (aI @e5 trivial)
  refine' ZfB
  all_goals first
   |exact hrest _ (by rw[hob];rfl)
   |exact hrest _ (by rw[hob,T8w,show(253::uB (i.op-64768)).length=1+(uB (i.op-64768)).length by simp only[Yag];omega];rfl)
 ·have hob:opB i.op=[i.op%256]:=if_neg hbig
  have nx:=trivial
  refine' ZfB
  all_goals first
   |exact hrest _ (by rw[hob];rfl)
theorem ZD4 (i:Ins)(hi:ZbM i) :
 AC Tryz.prog 107 [.agg (ZgV i)] (fun v m=>v= .tup [.view (Zdo i).1.length 1 (Zi .u8 (Zdo i).1),.bool (Zdo i).2]/\m=[]):=by
 refine(ZB1 i hi).out fun v m h=> ?_
 rcases h with⟨h0,rfl,rfl⟩|⟨k,rfl,rfl⟩
 ·refine⟨_,_,⟨rfl,rfl⟩,fun S w w' u ho=>ho.wk (Wk.tup ?_)⟩
  rw[h0]
  exact .cons (Wk.nils 1) (WkL.refl _)
 ·refine⟨_,_,⟨rfl,rfl⟩,fun S w w' u ho=> ?_⟩
  have h2:=ho.frz
  have e:ZlU k (Zi .u8 (Zdo i).1) (.tup [.ref k 0 (Zdo i).1.length 1,.bool (Zdo i).2])= .tup [.view (Zdo i).1.length 1 (Zi .u8 (Zdo i).1),.bool (Zdo i).2]:=by
   simp only[ZlU,V.frz,V.wipe,List.map_cons,List.map_nil,Ya4,cond_true,List.drop_zero,Yad (Nat.le_of_eq ((Zb .u8 (Zdo i).1).trans (Nat.mul_one _).symm))]
  rw[e]at h2;exact h2
end
end Go.Proofs.YtimhmpdfioihlaaGreatDoor
