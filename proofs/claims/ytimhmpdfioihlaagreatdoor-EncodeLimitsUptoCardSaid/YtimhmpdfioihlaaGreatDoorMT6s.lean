/- utf8.ValidString. -/
import Derived.Test.YtimhmpdfioihlaaGreatDoorDP
import Derived.Test.YtimhmpdfioihlaaGreatDoorGPreV
import Derived.Test.YtimhmpdfioihlaaGreatDoorGV6
import Derived.Test.YtimhmpdfioihlaaGreatDoorGCB
import Derived.Test.YtimhmpdfioihlaaGreatDoorGAMD
import Derived.Test.YtimhmpdfioihlaaGreatDoorGRefpre
set_option linter.unusedSimpArgs false
set_option linter.unusedVariables false
set_option maxHeartbeats 12800000
namespace Go.Proofs.YtimhmpdfioihlaaGreatDoor
set_option maxRecDepth 20000
open Go Go.Abs Nat
attribute [local irreducible] AW AWL AC FW CW CWr IntKind.wrap
section
def S61 (l:List Int):St:={ n:=169,slots:=[(0,.str (toS l))],mem:=[] }
theorem ZFt.NM:type_of% @MB.NM/\type_of% @S61.eq_1:=
 ⟨MB.NM,@S61.eq_1⟩
open ZFt
theorem Zz7.kp:type_of% (@Z2 [0,2,3,4,5,6,75]):= @Z2 [0,2,3,4,5,6,75]
theorem Zz7.cl {p:Prop}(h:p:=by
 first
  |refine AWL.frzG rfl rfl rfl ?_
  |refine AWL.cC (f:=105) ZwZ rfl rfl rfl rfl rfl rfl (w0) ?_
  |refine AWL.cC (f:=105) ZwZ rfl rfl rfl rfl rfl rfl (w1) ?_
  |refine AWL.cC (f:=105) ZwZ rfl rfl rfl rfl rfl rfl (w2) ?_
  |refine AWL.cC (f:=105) ZwZ rfl rfl rfl rfl rfl rfl (w3) ?_
 all_goals(apply_rules (newGoals:= .nonDependentOnly) only[dep];exact())):p:=h
open Zz7 Zuy in
theorem ZrL (l:List Int)(hb:bytes l)(hl:l.length<=1000000000):AC Tryz.prog 61 [.str (toS l)] (fun r m=>r= .bool (ZaV l)/\m=[]):=by
 obtain⟨A,hA⟩: ∃A,ZaV l=A:=⟨_,rfl⟩
 rw[hA]
 have w0:True:=trivial
 have w1:True:=trivial
 have w2:True:=trivial
 have w3:True:=trivial
 refine AC.enter Tryz.func61 rfl (Yaa rfl) ?_
 simp only[Tryz.f61]
 have nx:=trivial
 refine' Zis
 refine AW.loop [0] [] (fun m st=> ∃(l:List Int),st=S61 l/\bytes l/\l.length<=1000000000/\ZaV l=A/\m=l.length) ?_ ?_
 ·exact⟨_,l,rfl,hb,hl,hA,rfl⟩
 clear hA hb hl
 rintro m st ⟨l,rfl,hb,hl,hA,rfl⟩
 rcases l with _|⟨c,l⟩
 ·rw[Zkr]at hA
  subst hA
  have nx:=trivial
  refine' Zis
  all_goals first|exact⟨trivial,trivial⟩|exact⟨rfl,trivial⟩|exact⟨rfl,rfl⟩|exact⟨trivial,rfl⟩|(exfalso;omega)|trace_state
 have hc:=hb c (List.mem_cons_self ..)
 have hbl:bytes l:=fun x hx=>hb x (Yaq _ hx)
 rw[Yag]at hl
 have g0:(((toS (c::l)).getD 0 0).toNat:Int)=c:=Zb3 hb (Nat.succ_pos _)
 have g1:List.drop 1 (c::l)=l:=rfl
 by_cases h128:c<128
 ·as_aux_lemma=>
  rw[ZhN h128]at hA
  have d1:decide (c<128)=true:=Yae h128
  have hl1:l.length+1-1=l.length:=by omega
  by_cases k1:l.length>8
  ·have e1:decide ((l.length:Int)>8)=true:=Yae (by omega)
   have w0:=Zdr l hbl (by omega) (by omega)
   by_cases m1:(le (l.take 8)).toNat &&& Zc8 8=0
   ·have n1:=Zks (Za0 hbl (by omega)) m1
    rw[ZdF hbl (by omega) m1]at hA
    obtain⟨q,hq⟩: ∃q,l.drop 8=q:=⟨_,rfl⟩
    rw[hq]at hA
    obtain⟨hbq,hlq,htq⟩:=Zci hq hbl
    have cq:List.take q.length q=q:=Yau
    have hlen8:l.length-8=q.length:=hlq.symm
    by_cases k2:q.length>16
    ·have e2:decide ((q.length:Int)>16)=true:=Yae (by omega)
     obtain⟨r,hr⟩: ∃r,q.drop 8=r:=⟨_,rfl⟩
     obtain⟨hbr,hlr,htr⟩:=Zci hr hbq
     have cr:List.take r.length r=r:=Yau
     have hlenr:q.length-8=r.length:=hlr.symm
     have w1:=Zdr q hbq (by omega) (by omega)
     have w2:=Zdr r hbr (by omega) (by omega)
     have o2:=Znc (Za0 hbq (by omega)) (Za0 hbr (by omega))
     have om2:=Znd (Za0 hbq (show 8<=q.length by omega)) (Za0 hbr (show 8<=r.length by omega)) (Zc8 8)
     by_cases m2:(Zt .or .u64 (le (q.take 8)) (le (r.take 8))).toNat &&& Zc8 8=0
     ·have n2:=Zks o2 m2
      have mm:=om2.1 m2
      have lq:l.length=q.length+8:=by omega
      rw[ZdF hbq (by omega) mm.1,hr,ZdF hbr (by omega) mm.2]at hA
      obtain⟨s,hs⟩: ∃s,r.drop 8=s:=⟨_,rfl⟩
      rw[hs]at hA
      obtain⟨hbs,hls,hts⟩:=Zci hs hbr
      have hqs:List.drop 16 q=s:=by rw[<- hs,<- hr,List.drop_drop]
      have cs:List.take s.length s=s:=Yau
      have hlens:q.length-16=s.length:=by omega
      have nx:=aI @ZbN (aI @Zbh (aI @Zbi (aI @d1 (aI @g0 (aI @g1 (aI @Yag.{0} (aI @hl1 (aI @e1 (aI @n1 (aI @hq (aI @cq (aI @hlen8 (aI @e2 (aI @hr (aI @cr (aI @hlenr (aI @n2 (aI @hqs (aI @cs (aI @hlens trivial))))))))))))))))))))
      refine' Zbf
      have hsl:s.length<l.length+1:=by omega
      have hsm:s.length<=1000000000:=by omega
      clear w0 w1 w2 o2 om2 m2 n2 mm m1 n1 hq cq hlen8 e2 hr cr hlenr hqs cs hlens hts hls htr hlr htq hlq g0 g1 hl1 e1
      refine AW.loop [0] [] (fun m st=> ∃(u:List Int),st=S61 u/\bytes u/\u.length<=s.length/\ZaV u=A/\m=u.length) ?_ ?_
      ·exact⟨_,s,rfl,hbs,Nat.le_refl _,hA,rfl⟩
      as_aux_lemma=>
      clear hA hbs
      rintro m st ⟨u,rfl,hbu,hlu,hA,rfl⟩
      have w0:True:=trivial
      have w1:True:=trivial
      have w2:True:=trivial
      by_cases k4:u.length>32
      ·have e4:decide ((u.length:Int)>32)=true:=Yae (by omega)
       obtain⟨v1,h1⟩: ∃r,u.drop 8=r:=⟨_,rfl⟩
       obtain⟨hb1,hl1, -⟩:=Zci h1 hbu
       obtain⟨v2,h2⟩: ∃r,u.drop 16=r:=⟨_,rfl⟩
       obtain⟨hb2,hl2, -⟩:=Zci h2 hbu
       obtain⟨v3,h3⟩: ∃r,u.drop 24=r:=⟨_,rfl⟩
       obtain⟨hb3,hl3, -⟩:=Zci h3 hbu
       obtain⟨v4,h4⟩: ∃r,u.drop 32=r:=⟨_,rfl⟩
       obtain⟨hb4,hl4, -⟩:=Zci h4 hbu
       have c1:List.take v1.length v1=v1:=Yau
       have c2:List.take v2.length v2=v2:=Yau
       have c3:List.take v3.length v3=v3:=Yau
       have c4:List.take v4.length v4=v4:=Yau
       have z1:u.length-8=v1.length:=hl1.symm
       have z2:u.length-16=v2.length:=hl2.symm
       have z3:u.length-24=v3.length:=hl3.symm
       have z4:u.length-32=v4.length:=hl4.symm
       have y2:v1.drop 8=v2:=by rw[<- h1,<- h2,List.drop_drop]
       have y3:v2.drop 8=v3:=by rw[<- h2,<- h3,List.drop_drop]
       have y4:v3.drop 8=v4:=by rw[<- h3,<- h4,List.drop_drop]
       have w0:=Zdr u hbu (by omega) (by omega)
       have w1:=Zdr v1 hb1 (by omega) (by omega)
       have w2:=Zdr v2 hb2 (by omega) (by omega)
       have w3:=Zdr v3 hb3 (by omega) (by omega)
       have oa:=Znc (Za0 hbu (show 8<=u.length by omega)) (Za0 hb1 (show 8<=v1.length by omega))
       have ob:=Znc (Za0 hb2 (show 8<=v2.length by omega)) (Za0 hb3 (show 8<=v3.length by omega))
       have oc:=Znc oa ob
       have ma:=Znd (Za0 hbu (show 8<=u.length by omega)) (Za0 hb1 (show 8<=v1.length by omega)) (Zc8 8)
       have mb:=Znd (Za0 hb2 (show 8<=v2.length by omega)) (Za0 hb3 (show 8<=v3.length by omega)) (Zc8 8)
       have mc:=Znd oa ob (Zc8 8)
       by_cases m4:(Zt .or .u64 (Zt .or .u64 (le (u.take 8)) (le (v1.take 8))) (Zt .or .u64 (le (v2.take 8)) (le (v3.take 8)))).toNat &&& Zc8 8=0
       ·have n4:=Zks oc m4
        have md:=mc.1 m4
        have ma:=ma.1 md.1
        have mb:=mb.1 md.2
        rw[ZdF hbu (by omega) ma.1,h1,ZdF hb1 (by omega) ma.2,y2,ZdF hb2 (by omega) mb.1,y3,ZdF hb3 (by omega) mb.2,y4]at hA
        have nx:=aI @ZbN (aI @Zbh (aI @Zbi (aI @e4 (aI @h1 (aI @h2 (aI @h3 (aI @h4 (aI @c1 (aI @c2 (aI @c3 (aI @c4 (aI @z1 (aI @z2 (aI @z3 (aI @z4 (aI @n4 trivial))))))))))))))))
        refine' Zbf
        all_goals first
         |exact⟨v4.length,by omega,v4,rfl,hb4,by omega,hA,rfl⟩
       ·have n4:=Zkt oc m4
        have nx:=aI @ZbN (aI @Zbh (aI @Zbi (aI @e4 (aI @h1 (aI @h2 (aI @h3 (aI @h4 (aI @c1 (aI @c2 (aI @c3 (aI @c4 (aI @z1 (aI @z2 (aI @z3 (aI @z4 (aI @n4 trivial))))))))))))))))
        refine' Zbf
        all_goals first
         |exact⟨u.length,by simp only[Yag];omega,u,rfl,hbu,by omega,hA,rfl⟩
      ·have e4:decide ((u.length:Int)>32)=false:=Yaf (by omega)
       have nx:=aI @ZbN (aI @Zbh (aI @Zbi (aI @e4 trivial)))
       refine' Zbf
       all_goals first
        |exact⟨u.length,by simp only[Yag];omega,u,rfl,hbu,by omega,hA,rfl⟩
     ·have n2:=Zkt o2 m2
      have nx:=aI @ZbN (aI @Zbh (aI @Zbi (aI @d1 (aI @g0 (aI @g1 (aI @Yag.{0} (aI @hl1 (aI @e1 (aI @n1 (aI @hq (aI @cq (aI @hlen8 (aI @e2 (aI @hr (aI @cr (aI @hlenr (aI @n2 trivial)))))))))))))))))
      refine' Zbf
      all_goals first
       |exact⟨q.length,by simp only[Yag];omega,q,rfl,hbq,by omega,hA,rfl⟩
    ·have e2:decide ((q.length:Int)>16)=false:=Yaf (by omega)
     have nx:=aI @ZbN (aI @Zbh (aI @Zbi (aI @d1 (aI @g0 (aI @g1 (aI @Yag.{0} (aI @hl1 (aI @e1 (aI @n1 (aI @hq (aI @cq (aI @hlen8 (aI @e2 trivial)))))))))))))
     refine' Zbf
     all_goals first
      |exact⟨q.length,by simp only[Yag];omega,q,rfl,hbq,by omega,hA,rfl⟩
   ·have n1:=Zkt (Za0 hbl (by omega)) m1
    have nx:=aI @ZbN (aI @Zbh (aI @Zbi (aI @d1 (aI @g0 (aI @g1 (aI @Yag.{0} (aI @hl1 (aI @e1 (aI @n1 trivial)))))))))
    refine' Zbf
    all_goals first
     |exact⟨l.length,by simp only[Yag];omega,l,rfl,hbl,by omega,hA,rfl⟩
  ·have e1:decide ((l.length:Int)>8)=false:=Yaf (by omega)
   have nx:=aI @ZbN (aI @Zbh (aI @Zbi (aI @d1 (aI @g0 (aI @g1 (aI @Yag.{0} (aI @hl1 (aI @e1 trivial))))))))
   refine' Zbf
   all_goals first
    |exact⟨l.length,by simp only[Yag];omega,l,rfl,hbl,by omega,hA,rfl⟩
 ·obtain⟨x,hx,hk⟩:=Zku hc h128 l
  have d1:decide (c<128)=false:=Yaf h128
  rw[Zgo (List.cons_ne_nil _ _)]at hA
  have hc0:=hc.1
  have hc1:=hc.2
  have hfl:c.toNat<Zca.length:=by rw[Zne];omega
  have f1:vi ((List.drop c.toNat (List.map (V.int .u8) Zca)).getD 0 .any)=x:=Zqs hfl hx
  rcases hk with⟨rfl,hu⟩|⟨rfl,hu⟩|⟨hx3,hu⟩|⟨hx4,hu⟩
  ·as_aux_lemma=>
   rw[hu]at hA
   simp only at hA
   subst hA
   have nx:=aI @ZbN (aI @Zbh (aI @Zbi (aI @d1 (aI @g0 (aI @g1 (aI @Yag.{0} (aI @gV0 (aI @gV1 (aI @f1 (aI @ZGH (aI @ZFi (aI @t15 trivial))))))))))))
   refine' Zbf
   all_goals first|exact⟨trivial,trivial⟩|exact⟨rfl,trivial⟩|exact⟨rfl,rfl⟩|exact⟨trivial,rfl⟩|(exfalso;omega)|trace_state
  ·as_aux_lemma=>
   rw[hu]at hA
   rcases l with _|⟨y,l⟩
   ·rw[if_neg (by simp)]at hA
    simp only at hA
    subst hA
    have nx:=aI @ZbN (aI @Zbh (aI @Zbi (aI @d1 (aI @g0 (aI @Yag.{0} (aI @List.length_nil.{0} (aI @gV0 (aI @gV1 (aI @f1 (aI @a2 (aI @s2 (aI @t0 (aI @t00 trivial)))))))))))))
    refine' Zbf
    all_goals first|exact⟨trivial,trivial⟩|exact⟨rfl,trivial⟩|exact⟨rfl,rfl⟩|exact⟨trivial,rfl⟩|(exfalso;omega)|trace_state
   have g2:(((toS (c::y::l)).getD 1 0).toNat:Int)=y:=Zb3 hb (by simp)
   rw[Yag]at hl
   have hln:l.length+1+1-2=l.length:=by omega
   have hcut:List.take l.length l=l:=Yau
   have gd:List.drop 2 (c::y::l)=l:=rfl
   have hbl2:bytes l:=fun x hx=>hbl x (Yaq _ hx)
   have q1:decide ((((y::l).length+1:Nat):Int)<2)=false:=Yaf (by rw[Yag];omega)
   by_cases hy:128<=y/\y<=191
   ·rw[if_pos ⟨by simp,hy⟩]at hA
    have e1:decide (y<128)=false:=Yaf (by omega)
    have e2:decide (191<y)=false:=Yaf (by omega)
    have nx:=aI @ZbN (aI @Zbh (aI @Zbi (aI @d1 (aI @g0 (aI @g1 (aI @g2 (aI @gd (aI @Yag.{0} (aI @gV0 (aI @gV1 (aI @f1 (aI @a2 (aI @s2 (aI @t0 (aI @t00 (aI @e1 (aI @e2 (aI @hln (aI @hcut trivial)))))))))))))))))))
    refine' Zbf
    all_goals first
     |exact⟨l.length,by simp only[Yag];omega,l,rfl,hbl2,by omega,hA,rfl⟩
   ·rw[if_neg (fun h=>hy h.2)]at hA
    simp only at hA
    subst hA
    by_cases h1:y<128
    ·have e1:decide (y<128)=true:=Yae h1
     have nx:=aI @ZbN (aI @Zbh (aI @Zbi (aI @d1 (aI @g0 (aI @g1 (aI @g2 (aI @gd (aI @Yag.{0} (aI @gV0 (aI @gV1 (aI @f1 (aI @a2 (aI @s2 (aI @t0 (aI @t00 (aI @e1 (aI @hln (aI @hcut trivial))))))))))))))))))
     refine' Zbf
     all_goals first|exact⟨trivial,trivial⟩|exact⟨rfl,trivial⟩|exact⟨rfl,rfl⟩|exact⟨trivial,rfl⟩|(exfalso;omega)|trace_state
    ·have e1:decide (y<128)=false:=Yaf h1
     have e2:decide (191<y)=true:=Yae (by omega)
     have nx:=aI @ZbN (aI @Zbh (aI @Zbi (aI @d1 (aI @g0 (aI @g1 (aI @g2 (aI @gd (aI @Yag.{0} (aI @gV0 (aI @gV1 (aI @f1 (aI @a2 (aI @s2 (aI @t0 (aI @t00 (aI @e1 (aI @e2 (aI @hln (aI @hcut trivial)))))))))))))))))))
     refine' Zbf
     all_goals first|exact⟨trivial,trivial⟩|exact⟨rfl,trivial⟩|exact⟨rfl,rfl⟩|exact⟨trivial,rfl⟩|(exfalso;omega)|trace_state
  ·as_aux_lemma=>
   have a7:IntKind.i64.wrap (Zt .and .u8 x 7)=3:=by rcases hx3 with rfl|rfl|rfl<;>first|exact a19|exact a3|exact a35
   have sx:0<=Int.fdiv x (2^min 4 IntKind.u8.bits)/\Int.fdiv x (2^min 4 IntKind.u8.bits)<((16:Nat):Int):=by rcases hx3 with rfl|rfl|rfl<;>exact⟨by decide,by decide⟩
   have dl:2<=(List.drop ((Int.fdiv x (2^min 4 IntKind.u8.bits)).toNat*2) (List.map (V.int .u8) Z5)).length:=by rcases hx3 with rfl|rfl|rfl<;>exact Yaa rfl
   have tx:List.take 2 (List.drop ((Int.fdiv x (2^min 4 IntKind.u8.bits)).toNat*2) (List.map (V.int .u8) Z5))=[.int .u8 (Z5.getD (2*(x/16).toNat) 0),.int .u8 (Z5.getD (2*(x/16).toNat+1) 0)]:=by rcases hx3 with rfl|rfl|rfl<;>rfl
   generalize Z5.getD (2*(x/16).toNat) 0=lo at tx hu
   generalize Z5.getD (2*(x/16).toNat+1) 0=hi at tx hu
   clear hx3 hx
   rw[hu]at hA
   clear hu
   have hln:True:=trivial
   have hcut:True:=trivial
   have gd:True:=trivial
   have g2:True:=trivial
   have g3:True:=trivial
   rcases l with _|⟨y,l⟩
   case' nil=>
    rw[if_neg (by simp)]at hA
    simp only at hA
    subst hA
   case' cons=>
    rcases l with _|⟨z,l⟩
    case' nil=>
     rw[if_neg (by simp)]at hA
     simp only at hA
     subst hA
    case' cons=>
     simp only[Yag]at hl
     have hln:l.length+1+1+1-3=l.length:=by omega
     have hcut:List.take l.length l=l:=Yau
     have gd:List.drop 3 (c::y::z::l)=l:=rfl
     have g2:(((toS (c::y::z::l)).getD 1 0).toNat:Int)=y:=Zb3 hb (by simp)
     have g3:(((toS (c::y::z::l)).getD 2 0).toNat:Int)=z:=Zb3 hb (by simp)
     simp only[List.getD_cons_zero,List.getD_cons_succ]at hA
   all_goals
    have nx:=aI @ZbN (aI @Zbh (aI @Zbi (aI @d1 (aI @g0 (aI @g1 (aI @g2 (aI @g3 (aI @gd (aI @Yag.{0} (aI @List.length_nil.{0} (aI @gV0 (aI @gV1 (aI @f1 (aI @a7 (aI @tx (aI @hln (aI @hcut trivial)))))))))))))))))
    refine' Zbf
    all_goals first
     |exact⟨rfl,trivial⟩
     |(rw[if_neg (by omega)]at hA;simp only at hA;subst hA;exact⟨rfl,trivial⟩)
     |(rw[if_pos ⟨by simp only[Yag];omega,by omega,by omega,by omega,by omega⟩]at hA;exact⟨l.length,by simp only[Yag];omega,l,rfl,fun x hx=>hbl x (by simp[hx]),by omega,hA,rfl⟩)
  ·as_aux_lemma=>
   have a7:IntKind.i64.wrap (Zt .and .u8 x 7)=4:=by rcases hx4 with rfl|rfl|rfl<;>first|exact a52|exact a4|exact a68
   have sx:0<=Int.fdiv x (2^min 4 IntKind.u8.bits)/\Int.fdiv x (2^min 4 IntKind.u8.bits)<((16:Nat):Int):=by rcases hx4 with rfl|rfl|rfl<;>exact⟨by decide,by decide⟩
   have dl:2<=(List.drop ((Int.fdiv x (2^min 4 IntKind.u8.bits)).toNat*2) (List.map (V.int .u8) Z5)).length:=by rcases hx4 with rfl|rfl|rfl<;>exact Yaa rfl
   have tx:List.take 2 (List.drop ((Int.fdiv x (2^min 4 IntKind.u8.bits)).toNat*2) (List.map (V.int .u8) Z5))=[.int .u8 (Z5.getD (2*(x/16).toNat) 0),.int .u8 (Z5.getD (2*(x/16).toNat+1) 0)]:=by rcases hx4 with rfl|rfl|rfl<;>rfl
   generalize Z5.getD (2*(x/16).toNat) 0=lo at tx hu
   generalize Z5.getD (2*(x/16).toNat+1) 0=hi at tx hu
   clear hx4 hx
   rw[hu]at hA
   clear hu
   have hln:True:=trivial
   have hcut:True:=trivial
   have gd:True:=trivial
   have g2:True:=trivial
   have g3:True:=trivial
   have g4:True:=trivial
   rcases l with _|⟨y,l⟩
   case' nil=>
    rw[if_neg (by simp)]at hA
    simp only at hA
    subst hA
   case' cons=>
    rcases l with _|⟨z,l⟩
    case' nil=>
     rw[if_neg (by simp)]at hA
     simp only at hA
     subst hA
    case' cons=>
     rcases l with _|⟨u,l⟩
     case' nil=>
      rw[if_neg (by simp)]at hA
      simp only at hA
      subst hA
     case' cons=>
      simp only[Yag]at hl
      have hln:l.length+1+1+1+1-4=l.length:=by omega
      have hcut:List.take l.length l=l:=Yau
      have gd:List.drop 4 (c::y::z::u::l)=l:=rfl
      have g2:(((toS (c::y::z::u::l)).getD 1 0).toNat:Int)=y:=Zb3 hb (by simp)
      have g3:(((toS (c::y::z::u::l)).getD 2 0).toNat:Int)=z:=Zb3 hb (by simp)
      have g4:(((toS (c::y::z::u::l)).getD 3 0).toNat:Int)=u:=Zb3 hb (by simp)
      simp only[List.getD_cons_zero,List.getD_cons_succ]at hA
   all_goals
    have nx:=aI @ZbN (aI @Zbh (aI @Zbi (aI @d1 (aI @g0 (aI @g1 (aI @g2 (aI @g3 (aI @g4 (aI @gd (aI @Yag.{0} (aI @List.length_nil.{0} (aI @gV0 (aI @gV1 (aI @f1 (aI @a7 (aI @tx (aI @hln (aI @hcut trivial))))))))))))))))))
    refine' Zbf
    all_goals first
     |exact⟨rfl,trivial⟩
     |(rw[if_neg (by omega)]at hA;simp only at hA;subst hA;exact⟨rfl,trivial⟩)
     |(rw[if_pos ⟨by simp only[Yag];omega,by omega,by omega,by omega,by omega,by omega,by omega⟩]at hA;exact⟨l.length,by simp only[Yag];omega,l,rfl,fun x hx=>hbl x (by simp[hx]),by omega,hA,rfl⟩)
end
end Go.Proofs.YtimhmpdfioihlaaGreatDoor
