/- The writer: Encode. -/
import Derived.Test.YtimhmpdfioihlaaGreatDoorGV6
import Derived.Test.YtimhmpdfioihlaaGreatDoorGCB
import Derived.Test.YtimhmpdfioihlaaGreatDoorGLook
import Derived.Test.YtimhmpdfioihlaaGreatDoorGEB2
import Derived.Test.YtimhmpdfioihlaaGreatDoorGEB
import Derived.Test.YtimhmpdfioihlaaGreatDoorGENSElem
import Derived.Test.YtimhmpdfioihlaaGreatDoorGMMv
set_option linter.unusedSimpArgs false
set_option linter.unusedVariables false
set_option maxHeartbeats 12800000
namespace Go.Proofs.YtimhmpdfioihlaaGreatDoor
set_option maxRecDepth 20000
open Go Go.Abs Nat
attribute [local irreducible] AW AWL AC FW CW CWr IntKind.wrap
def ZHU (b:List Int)(e:Int)(v:V)(mm:List (Nat×List V)):Prop:=
 ∃k,v= .tup [.ref k 0 b.length 1,.int .i64 e]/\mm=[(k,Zi .u8 b)]
theorem ZnI:type_of% @NSX/\type_of% @St.keepS.eq_1/\type_of% @TY/\type_of% @ZjT/\type_of% @Zb/\type_of% @owM.eq_1/\type_of% @Zb9.eq_1/\type_of% @Zcr.eq_1:=
 ⟨NSX,St.keepS.eq_1,@TY,@ZjT,@Zb,@owM.eq_1,@Zb9.eq_1,@Zcr.eq_1⟩
theorem Zsc (m:Mod)(hsz:szM m+500<=1000000000)(hln:m.types.length<=1000000000/\m.imports.length<=1000000000/\m.funcs.length<=1000000000/\m.tables.length<=1000000000/\m.mems.length<=1000000000/\m.globals.length<=1000000000/\m.exports.length<=1000000000/\m.elems.length<=1000000000/\m.codes.length<=1000000000/\m.datas.length<=1000000000)
 (hvs: ∀x∈m.imports,Zsm x.m/\Zsm x.n) (hve: ∀x∈m.exports,Zsm x.n) (hwg: ∀x∈m.globals,Zvy x.c) (hwe: ∀x∈m.elems,Zvy x.c) (hwc: ∀x∈m.codes,Zvy x.c) (hwd: ∀x∈m.datas,Zvy x.c) :
 AC Tryz.prog 10 [.agg (Zb9 m)] (fun v mm=>ZHU (ZdI m).1 (ZdI m).2 v mm):=by
 obtain⟨A,hA⟩: ∃A,ZdI m=A:=⟨_,rfl⟩
 rw[hA]
 obtain⟨Y,hY⟩: ∃Y,ZfR m=Y:=⟨_,rfl⟩
 unfold ZdI at hA
 rw[hY]at hA
 unfold ZfR at hY
 unfold szM at hsz
 obtain⟨hn1,hn2,hn3,hn4,hn5,hn6,hn7,hn9,hn10,hn11⟩:=hln
 obtain⟨c,hc⟩: ∃c,((m.funcs.length:Int)==(m.codes.length:Int))=c:=⟨_,rfl⟩
 rw[hc]at hY
 have hmust:=Zat ⟨Zcr,false⟩ c
 have l0:(Zy c ⟨Zcr,false⟩).b.length=8:=rfl
 generalize Zy c ⟨Zcr,false⟩=o0 at hmust l0 hY
 have h1:=Zv5 o0 1 256 m.types ZGR (f:=ZqN) (sz:=Zgx) ZqO (fun x p hx h=>ZvS p x h) (by omega) hn1
 have l1:=ZcL (f:=ZqN) (sz:=Zgx) ZqO 1 256 m.types o0
 generalize Zbk ZqN 1 256 m.types o0=o1 at h1 l1 hY
 have h2:=Znz o1 2 512 m.imports ZGT (f:=ZqP) (sz:=ZhT) ZqQ (fun x p hx h=>ZvT p x (hvs x hx).1 (hvs x hx).2 h) (by omega) hn2
 have l2:=ZcL (f:=ZqP) (sz:=ZhT) ZqQ 2 512 m.imports o1
 generalize Zbk ZqP 2 512 m.imports o1=o2 at h2 l2 hY
 have h3:=ZvD o2 3 512 m.funcs ZGV (f:=ZoX) (sz:=Zj1) ZqH (fun x p hx h=>ZvC p x h) (by omega) hn3
 have l3:=ZcL (f:=ZoX) (sz:=Zj1) ZqH 3 512 m.funcs o2
 generalize Zbk ZoX 3 512 m.funcs o2=o3 at h3 l3 hY
 have h4:=Zh7 o3 4 512 m.tables ZGW (f:=ZqW) (sz:=Zhi) ZqX (fun x p hx h=>Zv3 p x h) (by omega) hn4
 have l4:=ZcL (f:=ZqW) (sz:=Zhi) ZqX 4 512 m.tables o3
 generalize Zbk ZqW 4 512 m.tables o3=o4 at h4 l4 hY
 have h5:=Zh7 o4 5 512 m.mems ZGX (f:=Zr1) (sz:=Zhi) ZqY (fun x p hx h=>Zv4 p x h) (by omega) hn5
 have l5:=ZcL (f:=Zr1) (sz:=Zhi) ZqY 5 512 m.mems o4
 generalize Zbk Zr1 5 512 m.mems o4=o5 at h5 l5 hY
 have h6:=ZnA o5 6 512 m.globals ZGZ (f:=Zhf) (sz:=Zf9) Znx (fun x p hx h=>ZrX p x (hwg x hx) h) (by omega) hn6
 have l6:=ZcL (f:=Zhf) (sz:=Zf9) Znx 6 512 m.globals o5
 generalize Zbk Zhf 6 512 m.globals o5=o6 at h6 l6 hY
 have h7:=ZnB o6 7 512 m.exports ZG1 (f:=ZqL) (sz:=ZhU) ZqM (fun x p hx h=>ZvQ p x (hve x hx) h) (by omega) hn7
 have l7:=ZcL (f:=ZqL) (sz:=ZhU) ZqM 7 512 m.exports o6
 generalize Zbk ZqL 7 512 m.exports o6=o7a at h7 l7 hY
 obtain⟨c2,hc2⟩: ∃c,decide (m.start >= -1)=c:=⟨_,rfl⟩
 rw[hc2]at hY
 have hmust2:=Zat o7a c2
 have l8:=ZaE c2 o7a
 generalize Zy c2 o7a=o7 at hmust2 l8 hY
 have hnum:=Zai ⟨[],false⟩ [m.start] (by simp only[List.length_singleton,List.length_nil];omega)
 have ln:=Zq [m.start] ⟨[],false⟩
 simp only[List.length_singleton,List.length_nil]at ln
 obtain⟨o8,ho8⟩: ∃o8,Zef m.start o7=o8:=⟨_,rfl⟩
 rw[ho8]at hY
 unfold Zef at ho8
 generalize Z9 [m.start] ⟨[],false⟩=q0 at hnum ln ho8
 have hput:=ZdW o7 q0 8 (by omega)
 have lp:=Zq3 8 q0 o7
 have l8b:o8.b.length<=o7.b.length+21:=by rw[<- ho8];split<;>omega
 generalize hpp:Zf1 8 q0 o7=o7p at hput lp ho8
 have h9:=Zr6 o8 9 512 m.elems ZG3 (f:=Zhe) (sz:=Zdw) Znw (fun x p hx h=>ZrW p x (hwe x hx) h) (by omega) hn9
 have l9:=ZcL (f:=Zhe) (sz:=Zdw) Znw 9 512 m.elems o8
 generalize Zbk Zhe 9 512 m.elems o8=o9 at h9 l9 hY
 have h10:=Zr7 o9 10 512 m.codes ZG5 (f:=Ze4) (sz:=Zdx) ZnE (fun x p hx h=>ZrY p x (hwc x hx) h) (by omega) hn10
 have l10:=ZcL (f:=Ze4) (sz:=Zdx) ZnE 10 512 m.codes o9
 generalize Zbk Ze4 10 512 m.codes o9=o10 at h10 l10 hY
 have h11:=Zr8 o10 11 512 m.datas ZG7 (f:=Zhd) (sz:=ZdJ) Znv (fun x p hx h=>ZrV p x (hwd x hx) h) (by omega) hn11
 have l11:=ZcL (f:=Zhd) (sz:=ZdJ) Znv 11 512 m.datas o10
 generalize Zbk Zhd 11 512 m.datas o10=o11 at h11 l11 hY
 subst hY
 refine AC.enter Tryz.func10 rfl (Yaa rfl) ?_
 simp only[Tryz.f10]
 obtain⟨bo0,bado0⟩:=o0
 obtain⟨bo1,bado1⟩:=o1
 obtain⟨bo2,bado2⟩:=o2
 obtain⟨bo3,bado3⟩:=o3
 obtain⟨bo4,bado4⟩:=o4
 obtain⟨bo5,bado5⟩:=o5
 obtain⟨bo6,bado6⟩:=o6
 obtain⟨bo7a,bado7a⟩:=o7a
 obtain⟨bo7,bado7⟩:=o7
 obtain⟨bo7p,bado7p⟩:=o7p
 obtain⟨bo8,bado8⟩:=o8
 obtain⟨bo9,bado9⟩:=o9
 obtain⟨bo10,bado10⟩:=o10
 obtain⟨bo11,bado11⟩:=o11
 obtain⟨bq0,badq0⟩:=q0
 unfold owM at hmust h1 h2 h3 h4 h5 h6 h7 hmust2 hnum hput h9 h10 h11
 simp only[List.cons_append,List.nil_append]at hmust h1 h2 h3 h4 h5 h6 h7 hmust2 hnum hput h9 h10 h11
 simp only at hA
 clear hsz hn1 hn2 hn3 hn4 hn5 hn6 hn7 hn9 hn10 hn11 hvs hve hwg hwe hwc hwd l0 l1 l2 l3 l4 l5 l6 l7 l8 ln lp l8b l9 l10 l11
 by_cases hst:m.start>=0
 case' pos=>
  have d1:decide (m.start>=0)=true:=Yae hst
  rw[if_pos hst]at ho8
  cases ho8
 case' neg=>
  have d1:decide (m.start>=0)=false:=Yaf hst
  rw[if_neg hst]at ho8
  cases ho8
 all_goals as_aux_lemma=>
  have hchk:True:=by simp only[hc,hc2,d1]
  repeat' (first
   |((with_reducible show AW _ _ _ _);first|((first|refine AW.seqP (by(first|assumption|exact Zh|exact Zd|exact ZaC|exact Zs (by first|assumption|exact Zh|exact Zd|exact ZaC)|exact Zo (by assumption))) ?_|refine AW.blockP (by(first|assumption|exact Zh|exact Zd|exact ZaC|exact Zs (by first|assumption|exact Zh|exact Zd|exact ZaC)|exact Zo (by assumption))) ?_);intro Qn hQn hPn))
   |((with_reducible show AWL _ _ _ _ _);refine AWL.lentD rfl rfl ?_;(try(conv=>arg -1;simp(disch:=omega) only[ZnI,Nat.reduceBEq,reduceAdd,reduceMul,Int.reduceToNat,reduceSub,List.set_cons_zero,List.set_cons_succ,hc,hc2,d1])))
   |((with_reducible first|show AWL _ _ _ _ _|show AW _ _ _ _);(first|refine AWL.nil ?_|refine AW.skip ?_|refine AW.ret ?_|refine AW.exit ?_);(repeat (first|refine QEq.mp (by assumption) ?_|simp only[Zbd,Go.Abs.blockQ,↓reduceIte,Nat.reduceEqDiff])))
   |((first
    |((with_reducible show AWL _ _ _ _ _);first|refine AWL.opN (sl:=SLo) rfl rfl rfl trivial ?_|(refine AWL.op (sl:=SLo) rfl rfl ?_ ?_)|refine AWL.cM (f:=17) [(0,9),(1000,10000)] Zrv rfl rfl rfl rfl rfl rfl rfl (hmust) ?_|refine AWL.cM (f:=17) [(0,9),(1000,10000)] Zrv rfl rfl rfl rfl rfl rfl rfl (hmust2) ?_|refine AWL.cM (f:=21) [(0,56),(1000,57000)] Zp8 rfl rfl rfl rfl rfl rfl rfl (hnum) ?_|refine AWL.cM (f:=36) [(0,9),(1000,10000),(2,56),(3000,57000)] ZGo rfl rfl rfl rfl rfl rfl rfl (hput) ?_|refine AWL.cM (f:=18) [(0,9),(1000,10000)] ZGQ rfl rfl rfl rfl rfl rfl rfl (h1) ?_|refine AWL.cM (f:=23) [(0,9),(1000,10000)] ZGS rfl rfl rfl rfl rfl rfl rfl (h2) ?_|refine AWL.cM (f:=26) [(0,9),(1000,10000)] ZGU rfl rfl rfl rfl rfl rfl rfl (h3) ?_|refine AWL.cM (f:=28) [(0,9),(1000,10000)] ZGm rfl rfl rfl rfl rfl rfl rfl (h4) ?_|refine AWL.cM (f:=28) [(0,9),(1000,10000)] ZGm rfl rfl rfl rfl rfl rfl rfl (h5) ?_|refine AWL.cM (f:=32) [(0,9),(1000,10000)] ZGY rfl rfl rfl rfl rfl rfl rfl (h6) ?_|refine AWL.cM (f:=34) [(0,9),(1000,10000)] ZG0 rfl rfl rfl rfl rfl rfl rfl (h7) ?_|refine AWL.cM (f:=37) [(0,9),(1000,10000)] ZG2 rfl rfl rfl rfl rfl rfl rfl (h9) ?_|refine AWL.cM (f:=40) [(0,9),(1000,10000)] ZG4 rfl rfl rfl rfl rfl rfl rfl (h10) ?_|refine AWL.cM (f:=42) [(0,9),(1000,10000)] ZG6 rfl rfl rfl rfl rfl rfl rfl (h11) ?_|(refine AWL.convSame rfl rfl rfl rfl rfl rfl (List.cons_ne_nil _ _) (by decide) rfl rfl ?_)|refine AWL.frzG rfl rfl rfl ?_)
    |((with_reducible show AW _ _ _ _);first|((show AW _ (.region _ _ false) _ _);refine AW.keepS [0,1,2,3,4,5] ?_;refine AW.region ?_)))<;>(try((first|with_reducible (first|show AWL _ _ _ _ _|show AW _ _ _ _|show DQ _ _ _ _ _ _)|(rintro _ _ ⟨⟩;done)|(rintro _ _ ⟨rfl,rfl⟩;(try refine And.intro (by kernel_rfl) ?_)));(try(conv=>arg -1;simp(disch:=omega) only[ZnI,Nat.reduceBEq,reduceAdd,reduceMul,Int.reduceToNat,reduceSub,List.set_cons_zero,List.set_cons_succ,hc,hc2,d1])))))
   |((with_reducible show AW _ _ _ _);first|(refine AW.cond rfl (fun hc=> ?_) (fun hc=> ?_)<;>first|(cases hc;done)|((try simp only[HCX]at hc);(try(exfalso;omega));(try(guard_hyp hc:True;clear hc)))))
   |((with_reducible show True);exact trivial)
   |((refine Zf4.mk rfl rfl rfl ?_ ?_ ?_;(focus (first|exact Or.inl rfl|exact Or.inr rfl)))<;>(try simp(disch:=omega) only[ZnI,Nat.reduceBEq,reduceAdd,reduceMul,Int.reduceToNat,reduceSub,List.set_cons_zero,List.set_cons_succ,hc,hc2,d1]))
   |(focus ((first|((try simp(disch:=omega) only[ZnI,Nat.reduceBEq,reduceAdd,reduceMul,Int.reduceToNat,reduceSub,List.set_cons_zero,List.set_cons_succ,hc,hc2,d1]);(repeat' (first|exact trivial|exact rfl|exact Yaa rfl|refine And.intro ?_ ?_|fail));done)|exact trivial|omega|assumption|((first|refine ZaY i3 _ _ ?_|refine ZaY i5 _ _ ?_|refine Zbe i3 _ _ ?_|refine Zbe i5 _ _ ?_);first|assumption|omega|(simp only[Yal];omega))|(show _<=_;omega)|(simp only[Yar,Yaw,Yal,Yag,List.length_nil];omega)|((repeat' (first|exact trivial|exact rfl|exact Yaa rfl|refine And.intro ?_ ?_|fail));done)|((try simp(disch:=omega) only[ZnI,Nat.reduceBEq,reduceAdd,reduceMul,Int.reduceToNat,reduceSub,List.set_cons_zero,List.set_cons_succ,hc,hc2,d1]);(repeat' (first|exact trivial|exact rfl|exact⟨_,_,rfl⟩|exact⟨_,rfl⟩|exact Yaa rfl|exact Nat.zero_lt_succ _|omega|(simp only[Yal];omega)|(simp only[Zb]at *;omega)|refine And.intro ?_ ?_|fail));done));done))
   |fail)
  all_goals
   refine⟨2,?_⟩
   first
    |(rw[<- hA,if_pos (by assumption)];exact⟨rfl,rfl⟩)
    |(rw[<- hA,if_neg (by intro h;have h2:bado11=false:=(by assumption);rw[h]at h2;cases h2),if_pos (by omega)];exact⟨rfl,rfl⟩)
    |(rw[<- hA,if_neg (by intro h;have h2:bado11=false:=(by assumption);rw[h]at h2;cases h2),if_neg (by omega)];exact⟨rfl,rfl⟩)
end Go.Proofs.YtimhmpdfioihlaaGreatDoor
