/- utf8.Valid. -/
import Derived.Test.YtimhmpdfioihlaaGreatDoorDP
import Derived.Test.YtimhmpdfioihlaaGreatDoorGPreV
import Derived.Test.YtimhmpdfioihlaaGreatDoorGV6
import Derived.Test.YtimhmpdfioihlaaGreatDoorGCB
import Derived.Test.YtimhmpdfioihlaaGreatDoorGMT1
import Derived.Test.YtimhmpdfioihlaaGreatDoorGWP
import Derived.Test.YtimhmpdfioihlaaGreatDoorGRefpre
set_option linter.unusedSimpArgs false
set_option linter.unusedVariables false
set_option maxHeartbeats 12800000
namespace Go.Proofs.YtimhmpdfioihlaaGreatDoor
set_option maxRecDepth 20000
open Go Go.Abs Nat
attribute [local irreducible] AW AWL AC FW CW CWr IntKind.wrap
section
def S63 (l:List Int):St:={ n:=188,slots:=[(0,.view l.length 1 (Zi .u8 l))],mem:=[] }
structure Hid (p:Prop):Prop where
 ok:p
theorem ZC6.NM:type_of% @MB.NM/\type_of% @S63.eq_1:=
 ⟨MB.NM,@S63.eq_1⟩
open ZC6
theorem Zvb.kp:type_of% (@Z2 [0,2,3,4,5,6,82]):= @Z2 [0,2,3,4,5,6,82]
theorem Zvb.cl {p:Prop}(h:p:=by
 first
  |refine AWL.frzG rfl rfl rfl ?_
  |refine AWL.cC (f:=114) ZmZ rfl rfl rfl rfl rfl rfl (w0) ?_
  |refine AWL.cC (f:=114) ZmZ rfl rfl rfl rfl rfl rfl (w1) ?_
  |refine AWL.cC (f:=114) ZmZ rfl rfl rfl rfl rfl rfl (w2) ?_
  |refine AWL.cC (f:=114) ZmZ rfl rfl rfl rfl rfl rfl (w3) ?_
 all_goals(apply_rules (newGoals:= .nonDependentOnly) only[dep];exact())):p:=h
open Zvb Zuy in
def Znl:{ P:Prop×Prop//Hid P.1->Hid P.2-> ∀l:List Int,bytes l->l.length<=1000000000->AC Tryz.prog 77 [.view l.length 1 (Zi .u8 l)] (fun r m=>r= .bool (ZaV l)/\m=[]) }:=
 ⟨(_,_),fun hP3 hP4 l hb hl=>by
 obtain⟨A,hA⟩: ∃A,ZaV l=A:=⟨_,rfl⟩
 rw[hA]
 have w0:True:=trivial
 have w1:True:=trivial
 have w2:True:=trivial
 have w3:True:=trivial
 refine AC.enter Tryz.func77 rfl (Yaa rfl) ?_
 simp only[Tryz.f77]
 have nx:=trivial
 refine' Zqb
 refine AW.loop [0] [] (fun m st=> ∃(l:List Int),st=S63 l/\bytes l/\l.length<=1000000000/\ZaV l=A/\m=l.length) ?_ ?_
 ·exact⟨_,l,rfl,hb,hl,hA,rfl⟩
 clear hA hb hl
 rintro m st ⟨l,rfl,hb,hl,hA,rfl⟩
 rcases l with _|⟨c,l⟩
 ·rw[Zkr]at hA
  subst hA
  have nx:=trivial
  refine' Zqb
  all_goals first|exact⟨trivial,trivial⟩|exact⟨rfl,trivial⟩|exact⟨rfl,rfl⟩|exact⟨trivial,rfl⟩|(exfalso;omega)|trace_state
 have hc:=hb c (List.mem_cons_self ..)
 have hbl:bytes l:=fun x hx=>hb x (Yaq _ hx)
 rw[Yag]at hl
 have g0:(Zi .u8 (c::l)).getD 0 .any= .int .u8 c:=rfl
 have g1:List.drop 1 (Zi .u8 (c::l))=Zi .u8 l:=rfl
 by_cases h128:c<128
 ·as_aux_lemma=>
  rw[ZhN h128]at hA
  have d1:decide (c<128)=true:=Yae h128
  have hl1:l.length+1-1=l.length:=by omega
  by_cases k1:l.length>8
  ·have e1:decide ((l.length:Int)>8)=true:=Yae (by omega)
   have w0:=Zgq l hbl (by omega) (by omega)
   by_cases m1:(le (l.take 8)).toNat &&& Zc8 8=0
   ·have n1:=Zks (Za0 hbl (by omega)) m1
    rw[ZdF hbl (by omega) m1]at hA
    obtain⟨q,hq⟩: ∃q,l.drop 8=q:=⟨_,rfl⟩
    rw[hq]at hA
    obtain⟨hbq,hlq,htq⟩:=Zci hq hbl
    have cq:List.take q.length q=q:=Yau
    have hlen8:l.length-8=q.length:=hlq.symm
    by_cases k2:q.length>16
    ·have e2:decide ((q.length:Int)>16)=true:=Yae (by omega)
     obtain⟨r,hr⟩: ∃r,q.drop 8=r:=⟨_,rfl⟩
     obtain⟨hbr,hlr,htr⟩:=Zci hr hbq
     have cr:List.take r.length r=r:=Yau
     have hlenr:q.length-8=r.length:=hlr.symm
     have w1:=Zgq q hbq (by omega) (by omega)
     have w2:=Zgq r hbr (by omega) (by omega)
     have o2:=Znc (Za0 hbq (by omega)) (Za0 hbr (by omega))
     have om2:=Znd (Za0 hbq (show 8<=q.length by omega)) (Za0 hbr (show 8<=r.length by omega)) (Zc8 8)
     by_cases m2:(Zt .or .u64 (le (q.take 8)) (le (r.take 8))).toNat &&& Zc8 8=0
     ·have n2:=Zks o2 m2
      have mm:=om2.1 m2
      have lq:l.length=q.length+8:=by omega
      rw[ZdF hbq (by omega) mm.1,hr,ZdF hbr (by omega) mm.2]at hA
      obtain⟨s,hs⟩: ∃s,r.drop 8=s:=⟨_,rfl⟩
      rw[hs]at hA
      obtain⟨hbs,hls,hts⟩:=Zci hs hbr
      have hqs:List.drop 16 q=s:=by rw[<- hs,<- hr,List.drop_drop]
      have cs:List.take s.length s=s:=Yau
      have hlens:q.length-16=s.length:=by omega
      have nx:=aI @d1 (aI @g0 (aI @g1 (aI @Yag.{0} (aI @hl1 (aI @e1 (aI @n1 (aI @hq (aI @cq (aI @hlen8 (aI @e2 (aI @hr (aI @cr (aI @hlenr (aI @n2 (aI @hqs (aI @cs (aI @hlens trivial)))))))))))))))))
      refine' ZbE
      have hsl:s.length<l.length+1:=by omega
      have hsm:s.length<=1000000000:=by omega
      clear w0 w1 w2 o2 om2 m2 n2 mm m1 n1 hq cq hlen8 e2 hr cr hlenr hqs cs hlens hts hls htr hlr htq hlq g0 g1 hl1 e1
      refine AW.loop [0] [] (fun m st=> ∃(u:List Int),st=S63 u/\bytes u/\u.length<=s.length/\ZaV u=A/\m=u.length) ?_ ?_
      ·exact⟨_,s,rfl,hbs,Nat.le_refl _,hA,rfl⟩
      as_aux_lemma=>
      clear hA hbs
      rintro m st ⟨u,rfl,hbu,hlu,hA,rfl⟩
      have w0:True:=trivial
      have w1:True:=trivial
      have w2:True:=trivial
      by_cases k4:u.length>32
      ·have e4:decide ((u.length:Int)>32)=true:=Yae (by omega)
       obtain⟨v1,h1⟩: ∃r,u.drop 8=r:=⟨_,rfl⟩
       obtain⟨hb1,hl1, -⟩:=Zci h1 hbu
       obtain⟨v2,h2⟩: ∃r,u.drop 16=r:=⟨_,rfl⟩
       obtain⟨hb2,hl2, -⟩:=Zci h2 hbu
       obtain⟨v3,h3⟩: ∃r,u.drop 24=r:=⟨_,rfl⟩
       obtain⟨hb3,hl3, -⟩:=Zci h3 hbu
       obtain⟨v4,h4⟩: ∃r,u.drop 32=r:=⟨_,rfl⟩
       obtain⟨hb4,hl4, -⟩:=Zci h4 hbu
       have c1:List.take v1.length v1=v1:=Yau
       have c2:List.take v2.length v2=v2:=Yau
       have c3:List.take v3.length v3=v3:=Yau
       have c4:List.take v4.length v4=v4:=Yau
       have z1:u.length-8=v1.length:=hl1.symm
       have z2:u.length-16=v2.length:=hl2.symm
       have z3:u.length-24=v3.length:=hl3.symm
       have z4:u.length-32=v4.length:=hl4.symm
       have y2:v1.drop 8=v2:=by rw[<- h1,<- h2,List.drop_drop]
       have y3:v2.drop 8=v3:=by rw[<- h2,<- h3,List.drop_drop]
       have y4:v3.drop 8=v4:=by rw[<- h3,<- h4,List.drop_drop]
       have w0:=Zgq u hbu (by omega) (by omega)
       have w1:=Zgq v1 hb1 (by omega) (by omega)
       have w2:=Zgq v2 hb2 (by omega) (by omega)
       have w3:=Zgq v3 hb3 (by omega) (by omega)
       have oa:=Znc (Za0 hbu (show 8<=u.length by omega)) (Za0 hb1 (show 8<=v1.length by omega))
       have ob:=Znc (Za0 hb2 (show 8<=v2.length by omega)) (Za0 hb3 (show 8<=v3.length by omega))
       have oc:=Znc oa ob
       have ma:=Znd (Za0 hbu (show 8<=u.length by omega)) (Za0 hb1 (show 8<=v1.length by omega)) (Zc8 8)
       have mb:=Znd (Za0 hb2 (show 8<=v2.length by omega)) (Za0 hb3 (show 8<=v3.length by omega)) (Zc8 8)
       have mc:=Znd oa ob (Zc8 8)
       by_cases m4:(Zt .or .u64 (Zt .or .u64 (le (u.take 8)) (le (v1.take 8))) (Zt .or .u64 (le (v2.take 8)) (le (v3.take 8)))).toNat &&& Zc8 8=0
       ·have n4:=Zks oc m4
        have md:=mc.1 m4
        have ma:=ma.1 md.1
        have mb:=mb.1 md.2
        rw[ZdF hbu (by omega) ma.1,h1,ZdF hb1 (by omega) ma.2,y2,ZdF hb2 (by omega) mb.1,y3,ZdF hb3 (by omega) mb.2,y4]at hA
        have nx:=aI @e4 (aI @h1 (aI @h2 (aI @h3 (aI @h4 (aI @c1 (aI @c2 (aI @c3 (aI @c4 (aI @z1 (aI @z2 (aI @z3 (aI @z4 (aI @n4 trivial)))))))))))))
        refine' ZbE
        all_goals first
         |exact⟨v4.length,by omega,v4,rfl,hb4,by omega,hA,rfl⟩
       ·have n4:=Zkt oc m4
        have nx:=aI @e4 (aI @h1 (aI @h2 (aI @h3 (aI @h4 (aI @c1 (aI @c2 (aI @c3 (aI @c4 (aI @z1 (aI @z2 (aI @z3 (aI @z4 (aI @n4 trivial)))))))))))))
        refine' ZbE
        all_goals first
         |exact⟨u.length,by simp only[Yag];omega,u,rfl,hbu,by omega,hA,rfl⟩
      ·have e4:decide ((u.length:Int)>32)=false:=Yaf (by omega)
       have nx:=aI @e4 trivial
       refine' ZbE
       all_goals first
        |exact⟨u.length,by simp only[Yag];omega,u,rfl,hbu,by omega,hA,rfl⟩
     ·have n2:=Zkt o2 m2
      have nx:=aI @d1 (aI @g0 (aI @g1 (aI @Yag.{0} (aI @hl1 (aI @e1 (aI @n1 (aI @hq (aI @cq (aI @hlen8 (aI @e2 (aI @hr (aI @cr (aI @hlenr (aI @n2 trivial))))))))))))))
      refine' ZbE
      all_goals first
       |exact⟨q.length,by simp only[Yag];omega,q,rfl,hbq,by omega,hA,rfl⟩
    ·have e2:decide ((q.length:Int)>16)=false:=Yaf (by omega)
     have nx:=aI @d1 (aI @g0 (aI @g1 (aI @Yag.{0} (aI @hl1 (aI @e1 (aI @n1 (aI @hq (aI @cq (aI @hlen8 (aI @e2 trivial))))))))))
     refine' ZbE
     all_goals first
      |exact⟨q.length,by simp only[Yag];omega,q,rfl,hbq,by omega,hA,rfl⟩
   ·have n1:=Zkt (Za0 hbl (by omega)) m1
    have nx:=aI @d1 (aI @g0 (aI @g1 (aI @Yag.{0} (aI @hl1 (aI @e1 (aI @n1 trivial))))))
    refine' ZbE
    all_goals first
     |exact⟨l.length,by simp only[Yag];omega,l,rfl,hbl,by omega,hA,rfl⟩
  ·have e1:decide ((l.length:Int)>8)=false:=Yaf (by omega)
   have nx:=aI @d1 (aI @g0 (aI @g1 (aI @Yag.{0} (aI @hl1 (aI @e1 trivial)))))
   refine' ZbE
   all_goals first
    |exact⟨l.length,by simp only[Yag];omega,l,rfl,hbl,by omega,hA,rfl⟩
 ·obtain⟨x,hx,hk⟩:=Zku hc h128 l
  have d1:decide (c<128)=false:=Yaf h128
  rw[Zgo (List.cons_ne_nil _ _)]at hA
  have hc0:=hc.1
  have hc1:=hc.2
  have hfl:c.toNat<Zca.length:=by rw[Zne];omega
  have f1:vi ((List.drop c.toNat (List.map (V.int .u8) Zca)).getD 0 .any)=x:=Zqs hfl hx
  rcases hk with⟨rfl,hu⟩|⟨rfl,hu⟩|⟨hx3,hu⟩|⟨hx4,hu⟩
  ·as_aux_lemma=>
   rw[hu]at hA
   simp only at hA
   subst hA
   have nx:=aI @d1 (aI @g0 (aI @g1 (aI @Yag.{0} (aI @gV0 (aI @gV1 (aI @f1 (aI @ZGH (aI @ZFi (aI @t15 trivial)))))))))
   refine' ZbE
   all_goals first|exact⟨trivial,trivial⟩|exact⟨rfl,trivial⟩|exact⟨rfl,rfl⟩|exact⟨trivial,rfl⟩|(exfalso;omega)|trace_state
  ·as_aux_lemma=>
   rw[hu]at hA
   rcases l with _|⟨y,l⟩
   ·rw[if_neg (by simp)]at hA
    simp only at hA
    subst hA
    have nx:=aI @d1 (aI @g0 (aI @Yag.{0} (aI @List.length_nil.{0} (aI @gV0 (aI @gV1 (aI @f1 (aI @a2 (aI @s2 (aI @t0 (aI @t00 trivial))))))))))
    refine' ZbE
    all_goals first|exact⟨trivial,trivial⟩|exact⟨rfl,trivial⟩|exact⟨rfl,rfl⟩|exact⟨trivial,rfl⟩|(exfalso;omega)|trace_state
   have g2:(Zi .u8 (y::l)).getD 0 .any= .int .u8 y:=rfl
   rw[Yag]at hl
   have hln:l.length+1+1-2=l.length:=by omega
   have hcut:List.take l.length l=l:=Yau
   have gd:List.drop 2 (Zi .u8 (c::y::l))=Zi .u8 l:=rfl
   have hbl2:bytes l:=fun x hx=>hbl x (Yaq _ hx)
   have q1:decide ((((y::l).length+1:Nat):Int)<2)=false:=Yaf (by rw[Yag];omega)
   by_cases hy:128<=y/\y<=191
   ·rw[if_pos ⟨by simp,hy⟩]at hA
    have e1:decide (y<128)=false:=Yaf (by omega)
    have e2:decide (191<y)=false:=Yaf (by omega)
    have nx:=aI @d1 (aI @g0 (aI @g1 (aI @g2 (aI @gd (aI @Yag.{0} (aI @gV0 (aI @gV1 (aI @f1 (aI @a2 (aI @s2 (aI @t0 (aI @t00 (aI @e1 (aI @e2 (aI @hln (aI @hcut trivial))))))))))))))))
    refine' ZbE
    all_goals first
     |exact⟨l.length,by simp only[Yag];omega,l,rfl,hbl2,by omega,hA,rfl⟩
   ·rw[if_neg (fun h=>hy h.2)]at hA
    simp only at hA
    subst hA
    by_cases h1:y<128
    ·have e1:decide (y<128)=true:=Yae h1
     have nx:=aI @d1 (aI @g0 (aI @g1 (aI @g2 (aI @gd (aI @Yag.{0} (aI @gV0 (aI @gV1 (aI @f1 (aI @a2 (aI @s2 (aI @t0 (aI @t00 (aI @e1 (aI @hln (aI @hcut trivial)))))))))))))))
     refine' ZbE
     all_goals first|exact⟨trivial,trivial⟩|exact⟨rfl,trivial⟩|exact⟨rfl,rfl⟩|exact⟨trivial,rfl⟩|(exfalso;omega)|trace_state
    ·have e1:decide (y<128)=false:=Yaf h1
     have e2:decide (191<y)=true:=Yae (by omega)
     have nx:=aI @d1 (aI @g0 (aI @g1 (aI @g2 (aI @gd (aI @Yag.{0} (aI @gV0 (aI @gV1 (aI @f1 (aI @a2 (aI @s2 (aI @t0 (aI @t00 (aI @e1 (aI @e2 (aI @hln (aI @hcut trivial))))))))))))))))
     refine' ZbE
     all_goals first|exact⟨trivial,trivial⟩|exact⟨rfl,trivial⟩|exact⟨rfl,rfl⟩|exact⟨trivial,rfl⟩|(exfalso;omega)|trace_state
  ·clear w0 w1 w2 w3
   rename_i l0 Q2 hQ2 hP2 Q1 hQ1 hP1 Q0 hQ0 hP0
   clear l0
   revert hu hx3 f1 hfl hc1 hc0 d1 hx x h128 g1 g0 hbl hc hA hl hb l c hPn hQn Qn hP0 hQ0 Q0 hP1 hQ1 Q1 hP2 hQ2 Q2 A
   exact hP3.ok
  ·clear w0 w1 w2 w3
   rename_i l0 Q2 hQ2 hP2 Q1 hQ1 hP1 Q0 hQ0 hP0
   clear l0
   revert hu hx4 f1 hfl hc1 hc0 d1 hx x h128 g1 g0 hbl hc hA hl hb l c hPn hQn Qn hP0 hQ0 Q0 hP1 hQ1 Q1 hP2 hQ2 Q2 A
   exact hP4.ok⟩
end
end Go.Proofs.YtimhmpdfioihlaaGreatDoor
