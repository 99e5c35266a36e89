/- What is read of a module can be written, in no more bytes. -/
import Derived.Test.YtimhmpdfioihlaaGreatDoorGV6
import Derived.Test.YtimhmpdfioihlaaGreatDoorGMArgs
import Derived.Test.YtimhmpdfioihlaaGreatDoorGEN6
import Derived.Test.YtimhmpdfioihlaaGreatDoorDP
import Derived.Test.YtimhmpdfioihlaaGreatDoorGPreV
import Derived.Test.YtimhmpdfioihlaaGreatDoorGCB
import Derived.Test.YtimhmpdfioihlaaGreatDoorGAMD
import Derived.Test.YtimhmpdfioihlaaGreatDoorGEN9v
set_option linter.unusedSimpArgs false
set_option linter.unusedVariables false
set_option maxHeartbeats 12800000
namespace Go.Proofs.YtimhmpdfioihlaaGreatDoor
set_option maxRecDepth 20000
open Go Go.Abs
theorem Zwl: ∀(b a:Nat),a<=b->(ZhK a).length<=(ZhK b).length:=by
 intro b
 induction b using Nat.strongRecOn with
 |_ b ih=>
  intro a h
  rw[ZhK.eq_def a,ZhK.eq_def b]
  by_cases hb:b<128
  ·rw[if_pos (by omega),if_pos hb];exact Nat.le_refl _
  ·rw[if_neg hb]
   by_cases ha:a<128
   ·rw[if_pos ha];simp
   ·rw[if_neg ha]
    have:=ih (b/128) (by omega) (a/128) (by omega)
    simp only[Yag];omega
theorem ZlR {a b:Int}(h0:0<=a)(h:a<=b)(hb:b<4294967296):(uB a).length<=(uB b).length:=by
 unfold uB
 rw[Int.emod_eq_of_lt h0 (by omega),Int.emod_eq_of_lt (by omega) (by omega)]
 exact Zwl _ _ (by omega)
theorem ZAp (n:Int):1<=(uB n).length:=List.length_pos_iff.2 (Znp n)
theorem ZD1 {n:Int}(h:0<=n/\n<16384):(uB n).length<=2:=by
 unfold uB
 rw[Int.emod_eq_of_lt h.1 (by omega),ZhK.eq_def]
 split
 ·simp
 ·rw[ZhK.eq_def,if_pos (by omega)];simp
theorem ZcM (f:Nat):Zhk f []=0:=by cases f<;>rfl
theorem ZcN (f:Nat):ZjU f []=[]:=by cases f<;>rfl
theorem ZfU (c:Int): ∀k,Zz c (List.replicate k c)=k
 |0=>rfl
 |k+1=>by rw[List.replicate_succ,Zz,if_pos rfl,ZfU c k]
theorem ZkD (x:Int)(r:List Int): ∀l:List Int,Zz x (l++r)=if Zz x l=l.length then l.length+Zz x r else Zz x l
 |[]=>by simp[Zz]
 |y::l=>by
  rw[List.cons_append,Zz,Zz]
  by_cases h:y=x
  ·rw[if_pos h,if_pos h,ZkD x r l,Yag]
   by_cases h2:Zz x l=l.length
   ·rw[if_pos h2,if_pos (by omega)];omega
   ·rw[if_neg h2,if_neg (by omega)]
  ·rw[if_neg h,if_neg h,if_neg (by rw[Yag];omega)]
theorem Zwm {c x:Int}(h:c≠x): ∀k,Zz x (List.replicate k c)=0
 |0=>rfl
 |k+1=>by rw[List.replicate_succ,Zz,if_neg h]
theorem ZjO (k:Nat)(c:Int): ∀(f:Nat) (a:List Int),a.length+k<=f->a.length+k<=512->
 Zhk f (a++List.replicate k c)<=Zhk f a+1/\(ZjU f (a++List.replicate k c)).length<=(ZjU f a).length+(uB (k:Int)).length+1
 |0,_,_,_=>⟨Nat.zero_le _,Nat.zero_le _⟩
 |f+1,[],h,h5=>by
  rw[List.nil_append]
  cases k with
  |zero=>exact⟨by simp[Zhk],by simp[ZjU]⟩
  |succ k=>
   have hd:(List.replicate k c).drop k=[]:=List.drop_eq_nil_of_le (by simp)
   have e1:Zhk (f+1) (c::List.replicate k c)=1:=by rw[Zhk,ZfU,hd,ZcM]
   have e2:ZjU (f+1) (c::List.replicate k c)=uB ((k+1:Nat):Int)++[IntKind.u8.wrap c]:=by rw[ZjU,ZfU,hd,ZcN,List.append_nil]
   rw[List.replicate_succ,e1,e2,ZcM,ZcN]
   simp only[Yal,Yag,List.length_nil]
   omega
 |f+1,x::l,h,h5=>by
  rw[Yag]at h h5
  rw[List.cons_append,Zhk,Zhk,ZjU,ZjU,ZkD]
  have hle:=Zee x l
  by_cases h2:Zz x l=l.length
  ·rw[if_pos h2,h2,List.drop_length,ZcM,ZcN]
   by_cases hc:c=x
   ·subst hc
    rw[ZfU,List.drop_eq_nil_of_le (by simp),ZcM,ZcN]
    have u1:=ZD1 (n:=((l.length+k+1:Nat):Int)) (by omega)
    have u2:=ZAp ((l.length+1:Nat):Int)
    have u3:=ZAp (k:Int)
    simp only[Yal,Yag,List.length_nil]
    omega
   ·rw[Zwm hc,Nat.add_zero l.length,List.drop_left]
    have ih:=ZjO k c f [] (by rw[List.length_nil];omega) (by rw[List.length_nil];omega)
    rw[List.nil_append,ZcM,ZcN]at ih
    simp only[Yal,Yag,List.length_nil]at ih ⊢
    omega
  ·rw[if_neg h2,List.drop_append_of_le_length hle]
   have hd:(l.drop (Zz x l)).length=l.length-Zz x l:=Yaw
   have ih:=ZjO k c f (l.drop (Zz x l)) (by omega) (by omega)
   simp only[Yal,Yag,List.length_nil]at ih ⊢
   omega
theorem ZnL: ∀(f g:Nat) (l:List Int),l.length<=f->l.length<=g->Zhk f l=Zhk g l/\ZjU f l=ZjU g l
 |0,g,l,h,_=>by rw[Yay (Nat.le_zero.1 h),ZcM,ZcM,ZcN,ZcN];exact⟨rfl,rfl⟩
 |f+1,0,l,_,h=>by rw[Yay (Nat.le_zero.1 h),ZcM,ZcM,ZcN,ZcN];exact⟨rfl,rfl⟩
 |f+1,g+1,[],_,_=>⟨rfl,rfl⟩
 |f+1,g+1,x::l,h,h2=>by
  rw[Yag]at h h2
  have hd:(l.drop (Zz x l)).length=l.length-Zz x l:=Yaw
  have ih:=ZnL f g (l.drop (Zz x l)) (by omega) (by omega)
  rw[Zhk,Zhk,ZjU,ZjU,ih.1,ih.2]
  exact⟨rfl,rfl⟩
theorem Zwn: ∀(f:Nat) (l:List Int),l.length<=512->l.all ZbT=true->ZAl f l=true
 |0,_,_,_=>rfl
 |_+1,[],_,_=>rfl
 |f+1,x::l,h,hk=>by
  rw[Yag]at h
  rw[List.all_cons,Yao]at hk
  have hle:=Zee x l
  rw[ZAl,hk.1,Zwn f _ (by rw[Yaw];omega) (Yat.2 fun y hy=>Yat.1 hk.2 y (List.mem_of_mem_drop hy))]
  have:Zaf ((Zz x l+1:Nat):Int)=true:=by
    unfold Zaf
    simp only[Yao,Yaz]
    omega
  rw[this];rfl
theorem Zwo {xs:List Int}{p k t:Int}(hb:bytes xs)(h0:0<=p)(h:ZcR xs p= .ok (k,t)):ZbT k=true/\t=p+1/\p<xs.length:=by
 unfold ZcR at h
 obtain⟨c,q,h1,h2⟩:=Zab h
 obtain⟨g1,g2,g3⟩:=Zgb hb h0 h1
 split at h2
 ·rename_i hc
  cases h2
  refine⟨?_,g2,g1⟩
  unfold ZbT
  rcases hc with rfl|rfl|rfl<;>rfl
 ·split at h2<;>cases h2
theorem Zq9 {xs:List Int}(hb:bytes xs): ∀(n:Nat) (a l:List Int) (p t:Int),0<=p/\p<=xs.length->a.length<=512->a.all ZbT=true->ZfZ xs n a p= .ok (l,t)->
 l.length<=512/\l.all ZbT=true/\p<=t/\t<=xs.length/\Zhk 512 l<=Zhk 512 a+n/\((ZjU 512 l).length:Int)<=(ZjU 512 a).length+(t-p)
 |0,a,l,p,t,h0,ha,hk,h=>by
  rw[ZfZ]at h
  cases h
  exact⟨ha,hk,Int.le_refl _,h0.2,Nat.le_refl _,by omega⟩
 |n+1,a,l,p,t,h0,ha,hk,h=>by
  rw[ZfZ]at h
  obtain⟨k,s,h1,h2⟩:=Zab h
  obtain⟨c,s2,h3,h4⟩:=Zab h2
  obtain⟨g1,g2,g3,g4,g5⟩:=Zpa hb h0 h1
  have hn:=ZbU g2
  obtain⟨j1,j2,j3⟩:=Zwo hb (by omega) h3
  have hm:=ZjO k.toNat c 512 a (by omega) (by omega)
  have ih:=Zq9 hb n (a++List.replicate k.toNat c) l s2 t ⟨by omega,by omega⟩ (by rw[Yal,List.length_replicate];omega) (by
    rw[List.all_append,hk,Bool.true_and,Yat]
    intro y hy
    rw[List.eq_of_mem_replicate hy];exact j1) h4
  rw[Int.toNat_of_nonneg hn.1]at hm
  obtain⟨q1,q2,q3,q4,q5,q6⟩:=ih
  exact⟨q1,q2,by omega,q4,by omega,by omega⟩
theorem Zzf {xs:List Int}{x:Zb8}{p t:Int}(hb:bytes xs)(hl:xs.length<=16384)(h0:0<=p/\p<=xs.length)(h:Zg4 xs p= .ok (x,t)):Iv (Ze4 x) xs p t/\okC x.c/\Zdx x<=100000:=by
 unfold Zg4 at h
 obtain⟨s,e,h1,h2⟩:=Zab h
 obtain⟨g1,g2,g3,g4,g5⟩:=ZlL hb h0 h1
 have hy:=ZiF hb e.toNat
 have hlen:((xs.take e.toNat).length:Int)=e:=by rw[Yar];omega
 unfold inT at h2
 have⟨u,hu⟩: ∃u,Zlk (xs.take e.toNat) s= .ok (x,u)/\t=e:=by
  cases hz:Zlk (xs.take e.toNat) s with
  |ok z=>rw[hz]at h2;obtain⟨z1,z2⟩:=z;simp only at h2;cases h2;exact⟨z2,rfl,rfl⟩
  |error z=>rw[hz]at h2;cases h2
 obtain⟨h3,rfl⟩:=hu
 generalize xs.take t.toNat=ys at hy hlen h3
 unfold Zlk at h3
 obtain⟨n,s1,h4,h5⟩:=Zab h3
 obtain⟨l,s2,h6,h7⟩:=Zab h5
 obtain⟨c,s3,h8,h9⟩:=Zab h7
 obtain⟨hc,h9⟩:=Zc5 h9
 cases h9
 obtain⟨j1,j2,j3,j4⟩:=Zh8 hy ⟨by omega,by omega⟩ h4
 have hn:=ZbU j1
 obtain⟨k1,k2,k3,k4,k5,k6⟩:=Zq9 hy n.toNat [] l s1 s2 ⟨by omega,j4⟩ (Nat.zero_le _) rfl h6
 rw[ZcM]at k5
 rw[ZcN]at k6
 obtain⟨i4c,⟨⟨B,ia,ib⟩,i5⟩,i6⟩:=ZlM hy (by omega) h8
 have i4:=i4c.1
 have hB:(Zw c).1=B:=by
  have e1:=(Zgw i4).b ⟨[],false⟩
  have e2:=ia.b ⟨[],false⟩
  rw[e1]at e2
  simpa using e2
 have hK:((Zw c).2==0)=true:=by
  have e1:=(Zgw i4).bad ⟨[],false⟩
  have e2:=ia.bad ⟨[],false⟩
  rw[e1]at e2
  simpa using e2
 have hf:=ZnL l.length 512 l (Nat.le_refl _) k1
 have hcnt:Zf8 l l.length=Zhk 512 l:=by rw[Zfu,hf.1]
 have hmn:=ZlR (a:=(Zhk 512 l:Int)) (b:=n) (by omega) (by rw[Nat.zero_add]at k5;omega) hn.2
 have hbl:((Zhl ⟨l,c⟩).length:Int)<=t-s:=by
  unfold Zhl
  simp only[Yal]
  rw[hf.2,hcnt,hB]
  simp only[List.length_nil]at k6
  omega
 have hpn:=ZbU g1
 have hm2:=ZlR (a:=((Zhl ⟨l,c⟩).length:Int)) (by omega) hbl hpn.2
 refine⟨Iv.ap (Zwb ⟨l,c⟩ i4) ?_ ?_ g5,i4c,?_⟩
 ·have e1:ZAm ⟨l,c⟩=true:=by
   unfold ZAm
   simp only
   rw[hK,Zwn _ _ k1 k2,hcnt]
   have:Zaf (Zhk 512 l:Int)=true:=by
    unfold Zaf
    simp only[Yao,Yaz]
    omega
   rw[this];rfl
  have e2:Zaf ((Zhl ⟨l,c⟩).length:Int)=true:=by
   unfold Zaf
   simp only[Yao,Yaz]
   omega
  rw[e1,e2,Yae (by show((l.length:Nat):Int)<=512;omega)];rfl
 ·rw[Yal];omega
 ·unfold Zdx;simp only;omega
def Wn (f:Ow->Ow)(n:Int):Prop:= ∃B,Ap f B true/\(B.length:Int)<=n
theorem Wn.comp {f g:Ow->Ow}{a b:Int}(h:Wn f a)(k:Wn g b):Wn (fun o=>g (f o)) (a+b):=by
 obtain⟨B,h1,h2⟩:=h
 obtain⟨C,k1,k2⟩:=k
 exact⟨B++C,h1.comp k1,by rw[Yal];omega⟩
theorem Wn.pos {f:Ow->Ow}{a:Int}(h:Wn f a):0<=a:=by
 obtain⟨B,h1,h2⟩:=h
 omega
theorem Zgc {α:Type}{f:α->Ow->Ow}{id most:Int}{l:List α}{xs:List Int}{s t n:Int}(hid:1<=id/\id<=11)(h0:0<=most)(hm:(l.length:Int)<=most)(h:Iv (fun o=>ZbA f l (Z9 [(l.length:Int)] o)) xs s t)(hn:Zaf n=true)(ht:t-s<=n):Wn (Zbk f id most l) (1+(uB n).length+n):=by
 have hp:=ZbU hn
 by_cases hl:l.length=0
 ·exact⟨[],Zo9 h0 hl,by simp;omega⟩
 ·obtain⟨⟨P,a,b⟩, -⟩:=h
  have hmn:=ZlR (a:=(P.length:Int)) (b:=n) (by omega) (by omega) hp.2
  refine⟨_,(ZAo (most:=most) hid hl a).cast rfl ?_,?_⟩
  ·rw[Yae hm]
   have:Zaf (P.length:Int)=true:=by
    unfold Zaf
    simp only[Yao,Yaz]
    omega
   rw[this];rfl
  ·simp only[Yal,List.length_singleton];omega
theorem Zzg {s n:Int}(hs:Zaf s=true)(hn:Zaf n=true)(h:((uB s).length:Int)<=n):Wn (fun o=>Zef s (Zy (decide (s >= -1)) o)) (1+(uB n).length+n):=by
 have hp:=ZbU hn
 have hq:=ZbU hs
 have hmn:=ZlR (a:=((uB s).length:Int)) (b:=n) (by omega) h hp.2
 have hput:=Zwd (id:=8) (by omega) (c:=true) (P:=uB s) (K:=Zaf s) (ZeS s) (fun _=>Z9 [s] ⟨[],false⟩) (fun _=>rfl)
 refine⟨[8]++(uB ((uB s).length:Int)++uB s),⟨fun o=> ?_,fun o=> ?_,Zba (ZaF (by omega)) (Zba (ZeS _) (ZeS _))⟩,by simp only[Yal,List.length_singleton];omega⟩
 ·unfold Zef
  rw[if_pos (show s>=0 by omega)]
  show(o.b++[8]++uB ((uB s).length:Int))++uB s=_
  simp only[Ya6]
 ·unfold Zef
  rw[if_pos (show s>=0 by omega)]
  show(((o.bad|| !(decide (s >= -1)))|| !(!(false|| !(Zaf s))))|| !(Zaf ((uB s).length:Int)))=_
  have e2:Zaf ((uB s).length:Int)=true:=by
   unfold Zaf
   simp only[Yao,Yaz]
   omega
  rw[Yae (by omega),hs,e2]
  cases o.bad<;>rfl
def SzL {α:Type}(sz:α->Nat)(l:List α):Prop:=Zaa sz l<=60000000/\l.length<=512
theorem Zgd {α:Type}{sz:α->Nat}: ∀{l:List α},(l.length:Int)<=512->(∀x∈l,sz x<=100000)->SzL sz l:=by
 intro l hl h
 have: ∀l:List α,(∀x∈l,sz x<=100000)->Zaa sz l<=100000*l.length:=by
  intro l
  induction l with
  |nil=>intro _;exact Nat.le_refl _
  |cons x l ih=>
   intro h
   have h1:=h x (List.mem_cons_self ..)
   have h2:=ih (fun y hy=>h y (Yaq _ hy))
   rw[Zaa,Yag];omega
 have:=this l h
 exact⟨by omega,by omega⟩
structure SzM (m:Mod):Prop where
 s1:SzL Zgx m.types
 s2:SzL ZhT m.imports
 s3:SzL Zj1 m.funcs
 s4:SzL Zhi m.tables
 s5:SzL Zhi m.mems
 s6:SzL Zf9 m.globals
 s7:SzL ZhU m.exports
 s9:SzL Zdw m.elems
 s10:SzL Zdx m.codes
 s11:SzL ZdJ m.datas
structure Gd (m:Mod)(n:Int):Prop where
 ok:OkM m
 sz:SzM m
 wr: ∃l1 l2 l3 l4 l5 l6 l7 l8 l9 l10 l11:Int,Wn (Zbk ZqN 1 256 m.types) l1/\Wn (Zbk ZqP 2 512 m.imports) l2/\Wn (Zbk ZoX 3 512 m.funcs) l3/\Wn (Zbk ZqW 4 512 m.tables) l4/\Wn (Zbk Zr1 5 512 m.mems) l5/\Wn (Zbk Zhf 6 512 m.globals) l6/\Wn (Zbk ZqL 7 512 m.exports) l7/\
  Wn (fun o=>Zef m.start (Zy (decide (m.start >= -1)) o)) l8/\Wn (Zbk Zhe 9 512 m.elems) l9/\Wn (Zbk Ze4 10 512 m.codes) l10/\Wn (Zbk Zhd 11 512 m.datas) l11/\l1+l2+l3+l4+l5+l6+l7+l8+l9+l10+l11<=n
theorem ZD2 {ys:List Int}{id:Int}{m m':Mod}{s t k n:Int}(hb:bytes ys)(hl:ys.length<=16384)(h0:0<=s/\s<=ys.length)(hid:1<=id/\id<=11)(h:Znj ys id m s= .ok (m',t))(hn:Zaf n=true)(ht:t-s<=n)(hg:Gd m k):Gd m' (k+(1+(uB n).length+n)):=by
 obtain⟨⟨og,oe,oc,od⟩,⟨z1,z2,z3,z4,z5,z6,z7,z9,z10,z11⟩,l1,l2,l3,l4,l5,l6,l7,l8,l9,l10,l11,w1,w2,w3,w4,w5,w6,w7,w8,w9,w10,w11,hs⟩:=hg
 have q1:=w1.pos
 have q2:=w2.pos
 have q3:=w3.pos
 have q4:=w4.pos
 have q5:=w5.pos
 have q6:=w6.pos
 have q7:=w7.pos
 have q8:=w8.pos
 have q9:=w9.pos
 have q10:=w10.pos
 have q11:=w11.pos
 have hc:id=1\/id=2\/id=3\/id=4\/id=5\/id=6\/id=7\/id=8\/id=9\/id=10\/id=11:=by omega
 unfold Znj at h
 rcases hc with rfl|rfl|rfl|rfl|rfl|rfl|rfl|rfl|rfl|rfl|rfl
 all_goals
  simp only[Int.reduceEq,↓reduceIte]at h
  obtain⟨l,q,h1,h2⟩:=Zab h
  cases h2
 ·obtain⟨g1,g2,g3⟩:=ZbZ (f:=ZqN) (P:=fun x=>Zgx x<=100000) hb (fun p x t h0 h=>ZBL hb h0 h) h0 h1
  exact⟨⟨og,oe,oc,od⟩,⟨(Zgd (show((l.length:Nat):Int)<=512 by omega) (fun x hx=>g2 x hx)),z2,z3,z4,z5,z6,z7,z9,z10,z11⟩,_,l2,l3,l4,l5,l6,l7,l8,l9,l10,l11,Zgc (by omega) (by omega) g1 g3 hn ht,w2,w3,w4,w5,w6,w7,w8,w9,w10,w11,by omega⟩
 ·obtain⟨g1,g2,g3⟩:=ZbZ (f:=ZqP) (P:=fun x=>ZhT x<=100000) hb (fun p x t h0 h=>ZBM hb hl h0 h) h0 h1
  exact⟨⟨og,oe,oc,od⟩,⟨z1,(Zgd (show((l.length:Nat):Int)<=512 by omega) (fun x hx=>g2 x hx)),z3,z4,z5,z6,z7,z9,z10,z11⟩,l1,_,l3,l4,l5,l6,l7,l8,l9,l10,l11,w1,Zgc (by omega) (by omega) g1 g3 hn ht,w3,w4,w5,w6,w7,w8,w9,w10,w11,by omega⟩
 ·obtain⟨g1, -,g3⟩:=ZbZ (f:=ZoX) (P:=fun _=>True) hb (fun p x t h0 h=>⟨Zy7 hb h0 h,trivial⟩) h0 h1
  exact⟨⟨og,oe,oc,od⟩,⟨z1,z2,(Zgd (show((l.length:Nat):Int)<=512 by omega) (fun x hx=>by unfold Zj1;omega)),z4,z5,z6,z7,z9,z10,z11⟩,l1,l2,_,l4,l5,l6,l7,l8,l9,l10,l11,w1,w2,Zgc (by omega) (by omega) g1 g3 hn ht,w4,w5,w6,w7,w8,w9,w10,w11,by omega⟩
 ·obtain⟨g1, -,g3⟩:=ZbZ (f:=ZqW) (P:=fun _=>True) hb (fun p x t h0 h=>⟨ZBN hb h0 h,trivial⟩) h0 h1
  exact⟨⟨og,oe,oc,od⟩,⟨z1,z2,z3,(Zgd (show((l.length:Nat):Int)<=512 by omega) (fun x hx=>by unfold Zhi;omega)),z5,z6,z7,z9,z10,z11⟩,l1,l2,l3,_,l5,l6,l7,l8,l9,l10,l11,w1,w2,w3,Zgc (by omega) (by omega) g1 g3 hn ht,w5,w6,w7,w8,w9,w10,w11,by omega⟩
 ·obtain⟨g1, -,g3⟩:=ZbZ (f:=Zr1) (P:=fun _=>True) hb (fun p x t h0 h=>⟨Zwh hb h0 h,trivial⟩) h0 h1
  exact⟨⟨og,oe,oc,od⟩,⟨z1,z2,z3,z4,(Zgd (show((l.length:Nat):Int)<=512 by omega) (fun x hx=>by unfold Zhi;omega)),z6,z7,z9,z10,z11⟩,l1,l2,l3,l4,_,l6,l7,l8,l9,l10,l11,w1,w2,w3,w4,Zgc (by omega) (by omega) g1 g3 hn ht,w6,w7,w8,w9,w10,w11,by omega⟩
 ·obtain⟨g1,g2,g3⟩:=ZbZ (f:=Zhf) (P:=fun x=>okC x.c/\Zf9 x<=100000) hb (fun p x t h0 h=>Zy8 hb hl h0 h) h0 h1
  exact⟨⟨fun x hx=>(g2 x hx).1,oe,oc,od⟩,⟨z1,z2,z3,z4,z5,(Zgd (show((l.length:Nat):Int)<=512 by omega) (fun x hx=>(g2 x hx).2)),z7,z9,z10,z11⟩,l1,l2,l3,l4,l5,_,l7,l8,l9,l10,l11,w1,w2,w3,w4,w5,Zgc (by omega) (by omega) g1 g3 hn ht,w7,w8,w9,w10,w11,by omega⟩
 ·obtain⟨g1,g2,g3⟩:=ZbZ (f:=ZqL) (P:=fun x=>ZhU x<=100000) hb (fun p x t h0 h=>ZBO hb hl h0 h) h0 h1
  exact⟨⟨og,oe,oc,od⟩,⟨z1,z2,z3,z4,z5,z6,(Zgd (show((l.length:Nat):Int)<=512 by omega) (fun x hx=>g2 x hx)),z9,z10,z11⟩,l1,l2,l3,l4,l5,l6,_,l8,l9,l10,l11,w1,w2,w3,w4,w5,w6,Zgc (by omega) (by omega) g1 g3 hn ht,w8,w9,w10,w11,by omega⟩
 ·obtain⟨g1,g2,g3,g4⟩:=Zh8 hb h0 h1
  exact⟨⟨og,oe,oc,od⟩,⟨z1,z2,z3,z4,z5,z6,z7,z9,z10,z11⟩,l1,l2,l3,l4,l5,l6,l7,_,l9,l10,l11,w1,w2,w3,w4,w5,w6,w7,Zzg g1 hn (show((uB l).length:Int)<=n by omega),w9,w10,w11,by omega⟩
 ·obtain⟨g1,g2,g3⟩:=ZbZ (f:=Zhe) (P:=fun x=>okC x.c/\Zdw x<=100000) hb (fun p x t h0 h=>Zy9 hb hl h0 h) h0 h1
  exact⟨⟨og,fun x hx=>(g2 x hx).1,oc,od⟩,⟨z1,z2,z3,z4,z5,z6,z7,(Zgd (show((l.length:Nat):Int)<=512 by omega) (fun x hx=>(g2 x hx).2)),z10,z11⟩,l1,l2,l3,l4,l5,l6,l7,l8,_,l10,l11,w1,w2,w3,w4,w5,w6,w7,w8,Zgc (by omega) (by omega) g1 g3 hn ht,w10,w11,by omega⟩
 ·obtain⟨g1,g2,g3⟩:=ZbZ (f:=Ze4) (P:=fun x=>okC x.c/\Zdx x<=100000) hb (fun p x t h0 h=>Zzf hb hl h0 h) h0 h1
  exact⟨⟨og,oe,fun x hx=>(g2 x hx).1,od⟩,⟨z1,z2,z3,z4,z5,z6,z7,z9,(Zgd (show((l.length:Nat):Int)<=512 by omega) (fun x hx=>(g2 x hx).2)),z11⟩,l1,l2,l3,l4,l5,l6,l7,l8,l9,_,l11,w1,w2,w3,w4,w5,w6,w7,w8,w9,Zgc (by omega) (by omega) g1 g3 hn ht,w11,by omega⟩
 ·obtain⟨g1,g2,g3⟩:=ZbZ (f:=Zhd) (P:=fun x=>(okC x.c/\bytes x.b)/\ZdJ x<=100000) hb (fun p x t h0 h=>Zza hb hl h0 h) h0 h1
  exact⟨⟨og,oe,oc,fun x hx=>(g2 x hx).1⟩,⟨z1,z2,z3,z4,z5,z6,z7,z9,z10,(Zgd (show((l.length:Nat):Int)<=512 by omega) (fun x hx=>(g2 x hx).2))⟩,l1,l2,l3,l4,l5,l6,l7,l8,l9,l10,_,w1,w2,w3,w4,w5,w6,w7,w8,w9,w10,Zgc (by omega) (by omega) g1 g3 hn ht,by omega⟩
theorem Gd.mono {m:Mod}{a b:Int}(h:Gd m a)(hab:a<=b):Gd m b:=by
 obtain⟨ok,sz,l1,l2,l3,l4,l5,l6,l7,l8,l9,l10,l11,w1,w2,w3,w4,w5,w6,w7,w8,w9,w10,w11,hs⟩:=h
 exact⟨ok,sz,l1,l2,l3,l4,l5,l6,l7,l8,l9,l10,l11,w1,w2,w3,w4,w5,w6,w7,w8,w9,w10,w11,by omega⟩
theorem ZBU {xs:List Int}{last:Int}{m m':Mod}{l' p t k:Int}(hb:bytes xs)(hl:xs.length<=16384)(h0:0<=p)(h:Zz6 xs last m p= .ok ((l',m'),t))(hg:Gd m k):Gd m' (k+(t-p))/\p<=t/\t<=xs.length:=by
 unfold Zz6 at h
 obtain⟨id,s,h1,h2⟩:=Zab h
 obtain⟨s2,e,h3,h4⟩:=Zab h2
 obtain⟨g1,g2,g3⟩:=Zgb hb h0 h1
 obtain⟨j1,j2,j3,j4,j5⟩:=ZlL hb ⟨by omega,by omega⟩ h3
 have hin: ∀{α:Type} {f:List Int->Int->Res α} {a:α},inT xs f s2 e= .ok (a,t)->(∃u,f (xs.take e.toNat) s2= .ok (a,u))/\t=e:=by
  intro α f a h
  unfold inT at h
  cases hz:f (xs.take e.toNat) s2 with
  |ok z=>rw[hz]at h;obtain⟨z1,z2⟩:=z;simp only at h;cases h;exact⟨⟨z2,rfl⟩,rfl⟩
  |error z=>rw[hz]at h;cases h
 split at h4
 ·obtain⟨⟨u,h5⟩,rfl⟩:=hin h4
  obtain⟨a,q,h6,h7⟩:=Zab h5
  cases h7
  exact⟨hg.mono (by omega),by omega,j5⟩
 ·obtain⟨⟨u,h5⟩,rfl⟩:=hin h4
  have hy:=ZiF hb t.toNat
  have hlen:((xs.take t.toNat).length:Int)=t:=by rw[Yar];omega
  obtain⟨hc,h5⟩:=Zc5 h5
  obtain⟨m2,q,h6,h7⟩:=Zab h5
  unfold Zll at h7
  obtain⟨hq,h7⟩:=Zc5 h7
  cases h7
  refine⟨(ZD2 hy (by omega) ⟨by omega,by omega⟩ ⟨by omega,by omega⟩ h6 j1 (by omega) hg).mono (by omega),by omega,j5⟩
theorem Zwp {xs:List Int}(hb:bytes xs)(hl:xs.length<=16384): ∀(n:Nat) (last:Int) (m m':Mod) (p t k:Int),0<=p->p<=xs.length->Zf0 xs n last m p= .ok (m',t)->Gd m k->Gd m' (k+(t-p))/\t<=xs.length
 |0,last,m,m',p,t,k,h0,hp,h,hg=>by
  rw[Zf0]at h
  cases h
  exact⟨hg.mono (by omega),hp⟩
 |n+1,last,m,m',p,t,k,h0,hp,h,hg=>by
  rw[Zf0]at h
  split at h
  ·obtain⟨⟨l',m1⟩,s,h1,h2⟩:=Zab h
   obtain⟨g1,g2,g3⟩:=ZBU hb hl h0 h1 hg
   obtain⟨k1,k2⟩:=Zwp hb hl n l' m1 m' s t _ (by omega) g3 h2 g1
   exact⟨k1.mono (by omega),k2⟩
  ·cases h
   exact⟨hg.mono (by omega),hp⟩
theorem gd0:Gd { ZnR with start:= -1 } 0:=
 have w: ∀{α:Type} {f:α->Ow->Ow} {id most:Int},0<=most->Wn (Zbk f id most ([]:List α)) 0:=fun h=>⟨[],Zo9 h rfl,by simp⟩
 have s: ∀{α:Type} {sz:α->Nat},SzL sz ([]:List α):=⟨Nat.zero_le _,Nat.zero_le _⟩
 ⟨⟨(fun x hx=>by cases hx),(fun x hx=>by cases hx),(fun x hx=>by cases hx),(fun x hx=>by cases hx)⟩,⟨s,s,s,s,s,s,s,s,s,s⟩,0,0,0,0,0,0,0,0,0,0,0,w (by omega),w (by omega),w (by omega),w (by omega),w (by omega),w (by omega),w (by omega),⟨[],ZcG true,by simp⟩,w (by omega),w (by omega),w (by omega),by omega⟩
theorem Zra {xs:List Int}: ∀(l:List Int) (p:Int) (u:Unit) (t:Int),0<=p->bytes xs->Zih xs l p= .ok (u,t)->t=p+l.length/\(p<=xs.length->t<=xs.length)
 |[],p,u,t,h0,hb,h=>by rw[Zih]at h;cases h;simp
 |c::l,p,u,t,h0,hb,h=>by
  rw[Zih]at h
  obtain⟨x,s,h1,h2⟩:=Zab h
  obtain⟨hc,h2⟩:=Zc5 h2
  obtain⟨g1,g2,g3⟩:=Zgb hb h0 h1
  have:=Zra l s u t (by omega) hb h2
  rw[Yag]
  omega
theorem ZBV {b:List Int}(hb:bytes b)(h:(Zkx b).2=0):OkM (Zkx b).1/\SzM (Zkx b).1/\(ZdI (Zkx b).1).2=0/\(ZdI (Zkx b).1).1.length<=b.length/\b.length<=16384:=by
 obtain⟨hl,t,ha⟩:=ZyG h
 generalize (Zkx b).1=m at ha ⊢
 unfold Zu9 at ha
 obtain⟨u,p,h1,h2⟩:=Zab ha
 obtain⟨m2,s,h3,h4⟩:=Zab h2
 obtain⟨hc,h4⟩:=Zc5 h4
 cases h4
 obtain⟨g1,g2⟩:=Zra _ _ _ _ (by omega) hb h1
 obtain⟨⟨ok,sz,l1,l2,l3,l4,l5,l6,l7,l8,l9,l10,l11,w1,w2,w3,w4,w5,w6,w7,w8,w9,w10,w11,hs⟩,k2⟩:=Zwp hb (by omega) _ _ _ _ _ _ _ (by simp only[Yag,List.length_nil]at g1;omega) (g2 (by omega)) h3 gd0
 have hw:=((((((((((w1.comp w2).comp w3).comp w4).comp w5).comp w6).comp w7).comp w8).comp w9).comp w10).comp w11)
 obtain⟨B,a,hB⟩:=hw
 have hb1:=a.b (Zy ((m.funcs.length:Int)==(m.codes.length:Int)) ⟨Zcr,false⟩)
 have hd1:=a.bad (Zy ((m.funcs.length:Int)==(m.codes.length:Int)) ⟨Zcr,false⟩)
 have hb1:(ZfR m).b=Zcr++B:=hb1
 have hd1:(ZfR m).bad=((false|| !((m.funcs.length:Int)==(m.codes.length:Int)))|| !true):=hd1
 rw[hc,Ya4]at hd1
 have hd1:(ZfR m).bad=false:=hd1
 have hlen:(ZfR m).b.length<=b.length:=by
  rw[hb1,Yal]
  simp only[Yag,List.length_nil]at g1
  have:Zcr.length=8:=rfl
  omega
 refine⟨ok,sz,?_⟩
 unfold ZdI
 rw[if_neg (by rw[hd1];exact Bool.false_ne_true),if_neg (by omega)]
 exact⟨rfl,hlen,hl⟩
end Go.Proofs.YtimhmpdfioihlaaGreatDoor
namespace Go.Proofs.YtimhmpdfioihlaaGreatDoor
set_option maxRecDepth 20000
open Go Go.Abs Nat
section
def hdB:List Int:=[0,97,115,109,1,0,0,0]
def ZHV (x:Res Mod)(v:V)(mm:List (Nat×List V)):Prop:=mm=[]/\match x with
 |.ok (m,_)=>v= .tup [.agg (Zb9 m),.int .i64 0]
 |.error (e,_)=>v= .tup [.agg ZqA,.int .i64 e]
def sD1 (b:List Int):St:={ n:=76,slots:=[(0,.view b.length 1 (Zi .u8 b)),(2,.ptr 2 0),(3,.ptr 3 0)],mem:=[(2,⟨false,ZqA⟩),(3,⟨false,[.int .i64 0]⟩)] }
def sD2 (b:List Int):St:={ n:=76,slots:=[(0,.view b.length 1 (Zi .u8 b)),(2,.ptr 2 0),(3,.ptr 3 0),(12,.bool false)],mem:=[(2,⟨false,ZqA⟩),(3,⟨false,[.int .i64 0]⟩)] }
def Th (pn:Nat->Option BI)(b:List Int)(p:Int)(i:Nat):St:={ n:=76,slots:=[(2,.ptr 2 0),(3,.ptr 3 0),(4,.ptr 19 0),(21,.ref 20 0 8 1),(22,.int .i64 8),(23,.int .i64 i)],mem:=[(2,⟨false,Zb9 ZnR⟩),(3,⟨false,[.int .i64 0]⟩),(19,⟨false,[.view b.length 1 (Zi .u8 b),.int .i64 p,.int .i64 b.length]⟩),(20,⟨true,Zi .u8 hdB⟩)],lent:=[(2,pn 2),(3,pn 3)] }
def Ts (pn:Nat->Option BI)(b:List Int)(p last:Int)(m:Mod):St:={ n:=76,slots:=[(2,.ptr 2 0),(3,.ptr 3 0),(4,.ptr 19 0),(7,.int .u8 last)],mem:=[(2,⟨false,Zb9 m⟩),(3,⟨false,[.int .i64 0]⟩),(19,⟨false,[.view b.length 1 (Zi .u8 b),.int .i64 p,.int .i64 b.length]⟩)],lent:=[(2,pn 2),(3,pn 3)] }
theorem wkZ:WkL ZqA (Zb9 ZnR):=
 .cons (Wk.nils 2) (.cons (Wk.nils 3) (.cons (Wk.nils 1) (.cons (Wk.nils 2) (.cons (Wk.nils 2) (.cons (Wk.nils 3) (.cons (Wk.nils 3) (.cons (Wk.refl _) (.cons (Wk.nils 2) (.cons (Wk.nils 2) (.cons (Wk.nils 2) .nil))))))))))
theorem ZwI {A C:Prop}{p t:Int}(h:A/\p<t/\C):A/\p<=t:=⟨h.1,Int.le_of_lt h.2.1⟩
theorem ZBW {b:List Int}{p:Int}{en:Nat}(h:okT b p en){id:Int}{m x:Mod}{t:Int}(he:Znj (b.take en) id m p= .ok (x,t)):okT b t en/\p<=t:=by
 have key: ∀{α:Type} (y:Res α) (f:α->Mod),(∀a t,y= .ok (a,t)->okT b t en/\p<=t)->bnd y (fun l t=> .ok (f l,t))= .ok (x,t)->okT b t en/\p<=t:=by
  intro α y f hy hb
  rcases y with⟨e,t0⟩|⟨a,t0⟩
  ·rw[Zn]at hb;cases hb
  ·rw[Zk]at hb;cases hb;exact hy _ _ rfl
 unfold Znj at he
 by_cases c1:id=1
 ·rw[if_pos c1]at he;exact key _ _ (fun a t hq=>ZwI (Zbj h (fun t a q ht hq=>ZvY ht hq) hq)) he
 rw[if_neg c1]at he
 by_cases c2:id=2
 ·rw[if_pos c2]at he;exact key _ _ (fun a t hq=>ZwI (Zbj h (fun t a q ht hq=>ZvZ ht hq) hq)) he
 rw[if_neg c2]at he
 by_cases c3:id=3
 ·rw[if_pos c3]at he;exact key _ _ (fun a t hq=>ZwI (Zbj h (fun t a q ht hq=>⟨(Zbo ht hq).1,Int.le_of_lt (Zbo ht hq).2.1⟩) hq)) he
 rw[if_neg c3]at he
 by_cases c4:id=4
 ·rw[if_pos c4]at he;exact key _ _ (fun a t hq=>ZwI (Zbj h (fun t a q ht hq=>ZvX ht hq) hq)) he
 rw[if_neg c4]at he
 by_cases c5:id=5
 ·rw[if_pos c5]at he;exact key _ _ (fun a t hq=>ZwI (Zbj h (fun t a q ht hq=>Zo1 ht hq) hq)) he
 rw[if_neg c5]at he
 by_cases c6:id=6
 ·rw[if_pos c6]at he;exact key _ _ (fun a t hq=>ZwI (Zbj h (fun t a q ht hq=>ZqS ht hq) hq)) he
 rw[if_neg c6]at he
 by_cases c7:id=7
 ·rw[if_pos c7]at he;exact key _ _ (fun a t hq=>ZwI (Zbj h (fun t a q ht hq=>Zv0 ht hq) hq)) he
 rw[if_neg c7]at he
 by_cases c8:id=8
 ·rw[if_pos c8]at he;exact key _ _ (fun a t hq=>⟨(Zbo h hq).1,Int.le_of_lt (Zbo h hq).2.1⟩) he
 rw[if_neg c8]at he
 by_cases c9:id=9
 ·rw[if_pos c9]at he;exact key _ _ (fun a t hq=>ZwI (Zbj h (fun t a q ht hq=>ZqT ht hq) hq)) he
 rw[if_neg c9]at he
 by_cases c10:id=10
 ·rw[if_pos c10]at he;exact key _ _ (fun a t hq=>ZwI (Zbj h (fun t a q ht hq=>ZqV ht hq) hq)) he
 rw[if_neg c10]at he
 by_cases c11:id=11
 ·rw[if_pos c11]at he;exact key _ _ (fun a t hq=>ZwI (Zbj h (fun t a q ht hq=>ZqU ht hq) hq)) he
 rw[if_neg c11]at he
 cases he;exact⟨h,Int.le_refl _⟩
theorem ZBX {xs:List Int}{α:Type}{a:α}{t:Int}:Zll xs a t=if t=xs.length then .ok (a,t)else .error (10,t):=rfl
theorem ZAq {α:Type}(xs:List Int)(f:List Int->Int->Res α)(s:Int)(en:Nat):inT xs f s (en:Int)=match f (xs.take en) s with|.ok (a,_)=> .ok (a,(en:Int))|.error (e,_)=> .error (e,(en:Int)):=by
 unfold inT;rw[Yap]
 rcases f (xs.take en) s with⟨e,q⟩|⟨a,q⟩<;>rfl
theorem AW.cutN {P:Program}{c:Code}{Q:Exit->St->Prop}{st:St}(is ks:List Nat)(T:St)(h1:AW P c (fun e s=>e= .normal/\s.keep is ks=T) st)(h2:Q .normal T):AW P c Q st:=
 AW.keepPost is ks (AW.mono h1 fun e s h=>by obtain⟨rfl,hs⟩:=h;rw[hs];exact h2)
def Tsb (pn:Nat->Option BI)(b:List Int)(p last:Int)(m:Mod)(B:Bool):St:={ n:=76,slots:=[(2,.ptr 2 0),(3,.ptr 3 0),(4,.ptr 19 0),(7,.int .u8 last),(42,.bool B)],mem:=[(2,⟨false,Zb9 m⟩),(3,⟨false,[.int .i64 0]⟩),(19,⟨false,[.view b.length 1 (Zi .u8 b),.int .i64 p,.int .i64 b.length]⟩)],lent:=[(2,pn 2),(3,pn 3)] }
theorem Zij {pn:Nat->Option BI}: ∀p∈[(0,2),(1,3)],lk [(2,pn 2),(3,pn 3)] p.2=some (pn p.2):=by
 intro p hp
 rcases Yav.1 hp with rfl|hp
 ·rfl
 rcases Yav.1 hp with rfl|hp
 ·rfl
 cases hp
def Zzh (x:Res Mod):Res Mod:=bnd x fun m t=>ZaT (m.codes.length=m.funcs.length) (fun t=> .ok (m,t)) t
def ZGg (xs:List Int)(x:Res Unit):Res Mod:=bnd x fun _ t=>Zzh (Zf0 xs xs.length 0 { ZnR with start:= -1 } t)
theorem ZBY {P:Program}{f g:FuncId}{fn:Func}{A D F:Code}{id:Nat}{mk df:Oper}{x1 x2:Operand}{k1 k2 dm d:Nat}{args:List V}{R:V->List (Nat×List V)->Prop}{s1 s3:St}{o1 o2:ZaK}
 (hf:P.funcs[f]? = some fn) (hb:fn.body=some (.seq A (.seq D (.seq (.region id #[mk,df] false) F)))) (hn:args.length<=fn.ntmps) (hcg:Za P g=true)
 (hA:AW P A (fun e s=>e= .normal/\s=s1) (st0 fn.ntmps args)) (hD:AW P D (fun e s=>(e= .ret/\Zf4 P fn.results.toList R .ret s)\/(e= .normal/\s=s3)) s1)
 (hm:mk.op= .makeFunc (.func g) #[] #[x1,x2]/\mk.dst=some dm/\mk.guard=none) (hd:df.op= .defer { callee:= .value (.tmp dm),args:= #[],argTypes:= #[] }/\df.dst=none/\df.guard=none) (hdm:dm<s3.n)
 (hx1:s3.ev x1= .ptr k1 0) (hx2:s3.ev x2= .ptr k2 0) (hk:(k1==k2)=false) (ho1:s3.obj k1=some o1) (ho2:s3.obj k2=some o2) (hl:s3.lent=[])
 (hF: ∀pn:Nat->Option BI,AW P F (ZnQ P fn g [(0,k1),(1,k2)] [0,1] d R pn) { s3.put dm .any with lent:=[(k1,pn k1),(k2,pn k2)] }):AC P f args R:=by
 intro S w us hS hlen hargs
 refine calls_of_wp_defers hf hb ?_
 have sep: ∀b,S b-> ¬False:=fun _ _ h=>h
 let C:Ctx:=⟨S,w,fun _=>False,hS,sep,[]⟩
 have hinit:SR C S (fun _=>none) (st0 fn.ntmps args) { tmps:=us.toArray++Array.replicate (fn.ntmps-us.toArray.size) undef,defers:=[] } w:={
  tsize:=by simp[st0];omega
  slots:=fun i=>by
   simp only[St.get,st0,Zb4,Nat.zero_le,if_true,Nat.sub_zero]
   cases hi:args[i]? with
   |none=>exact .any _
   |some v=>
    have hlt:i<us.length:=by rw[<- hlen];exact(Yak.1 hi).1
    have hu:us[i]? = some us[i]:=Yab hlt
    have:(us.toArray++Array.replicate (fn.ntmps-us.toArray.size) undef).getD i undef=us[i]:=by
      rw[Yan,Array.getElem?_append_left (by simpa using hlt)]
      simp[hlt]
    rw[this]
    exact hargs i v _ hi hu
  defers:=rfl
  objs:=fun k o ho=>by simp[St.obj,st0,lk]at ho
  inj:=fun k k' bi bi' hk=>by simp[St.obj,st0,lk]at hk
  own:=fun k bi hk=>by simp[St.obj,st0,lk]at hk
  pins:=fun k bi hk=>by simp[st0]at hk
  sub:=fun b hb=>hb
  snew:=fun b hb=> .inl hb
  slt:=hS.1
  frame:=⟨rfl,rfl,rfl,Nat.le_refl _,fun _ _ _=>rfl⟩ }
 refine wp_seq (wp_mono (hA C _ w ⟨S,_,hinit⟩) fun e a w1 ⟨s,⟨he,hs⟩,hr⟩=> ?_)
 subst he hs
 refine wp_seq (wp_mono (hD C a w1 hr) fun e a w3 ⟨s,hc,hr⟩=> ?_)
 rcases hc with⟨he,hq⟩|⟨he,hs⟩
 ·subst he
  obtain⟨S',β',hs⟩:=hr
  obtain⟨u,hrun,r,m,hR,hO⟩:=Zp7 hs hq
  show Leaves P fn a.tmps _ a.defers .returning w3
  rw[hs.defers]
  exact⟨u,hrun,r,m,u,hR,rfl,hO⟩
 ·subst he hs
  obtain⟨S',β',hs⟩:=hr
  refine wp_seq (ZjY hm hd (by rw[hs.tsize];exact hdm) ?_)
  obtain⟨b1,hb1,hp1⟩:=VR.ptr_inv (hx1▸Zag hs x1)
  obtain⟨b2,hb2,hp2⟩:=VR.ptr_inv (hx2▸Zag hs x2)
  have hkn:k1≠k2:=by simpa using hk
  have hus:((#[x1,x2]:Array Operand).map a.eval)= #[.pointer (some ⟨b1.blk,b1.off,none⟩),.pointer (some ⟨b2.blk,b2.off,none⟩)]:=by
   simp[hp1,hp2]
  have h1:=hs.put (d:=dm) (v:= .any) (u:= .func (.func g) #[] ((#[x1,x2]:Array Operand).map a.eval)) hdm (.any _)
  let pn:Nat->Option BI:=fun k=>if k=k1 then some b1 else some b2
  have e1:pn k1=some b1:=if_pos rfl
  have e2:pn k2=some b2:=if_neg fun h=>hkn h.symm
  have h2:SR ⟨S,w,fun _=>False,hS,sep,[{ target:= .fn (.func g) ((#[x1,x2]:Array Operand).map a.eval),args:= #[] }]⟩ S' β' { s.put dm .any with lent:=[(k1,pn k1),(k2,pn k2)] }
   { a.put (some dm) (.func (.func g) #[] ((#[x1,x2]:Array Operand).map a.eval))with defers:={ target:= .fn (.func g) ((#[x1,x2]:Array Operand).map a.eval),args:= #[] }::a.defers } w3:={
   tsize:=h1.tsize,slots:=h1.slots
   defers:=by show _::a.defers=[_];rw[hs.defers]
   objs:=h1.objs,inj:=h1.inj
   own:=fun k bi hk hbi=>⟨(h1.own k bi hk hbi).1,.inl ((h1.own k bi hk hbi).2.resolve_right fun h=>h.1)⟩
   pins:=fun k bi hk=>by
    simp only[Yav,Yai,List.not_mem_nil,or_false]at hk
    rcases hk with⟨rfl,h⟩|⟨rfl,h⟩
    ·rw[e1]at h;cases h;exact hb1
    ·rw[e2]at h;cases h;exact hb2
   sub:=h1.sub,snew:=h1.snew,slt:=h1.slt,frame:=h1.frame }
  refine wp_mono (hF pn _ _ _ ⟨S',β',h2⟩) fun e a w4 ⟨s4,he,S4,β4,h4⟩=> ?_
  refine Zod hcg ⟨by simp,fun j p u hp hu=> ?_⟩ h4 he
  rw[hus]at hu
  match j with
  |0=>simp at hp hu;subst hp hu;exact⟨b1,e1,rfl⟩
  |1=>simp at hp hu;subst hp hu;exact⟨b2,e2,rfl⟩
  |j+2=>simp at hp
attribute [local irreducible] AW AWL AC FW CW CWr IntKind.wrap
theorem ZGh.NM:type_of% @MB.NM/\type_of% @Zb9.eq_1/\type_of% @ZqA.eq_1/\type_of% @ZnR.eq_1/\type_of% @hdB.eq_1/\type_of% @sD1.eq_1/\type_of% @sD2.eq_1/\type_of% @Th.eq_1/\type_of% @Ts.eq_1/\type_of% @Tsb.eq_1:=
 ⟨MB.NM,@Zb9.eq_1,@ZqA.eq_1,@ZnR.eq_1,@hdB.eq_1,@sD1.eq_1,@sD2.eq_1,@Th.eq_1,@Ts.eq_1,@Tsb.eq_1⟩
open ZGh
theorem ZD3.cl {p:Prop}(h:p:=by
 first
  |refine AWL.cMP (f:=48) [(0,19)] ZzT rfl rfl rfl rfl rfl rfl rfl (q0) ?_ ?_
  |refine AWL.cMP (f:=47) [] ZzS rfl rfl rfl rfl rfl rfl rfl (q1) ?_ ?_
  |refine AWL.cMP (f:=50) [(0,19)] Zrw rfl rfl rfl rfl rfl rfl rfl (q2) ?_ ?_
  |refine AWL.cMP (f:=49) [(0,19)] ZEI rfl rfl rfl rfl rfl rfl rfl (q3) ?_ ?_
  |refine AWL.cMP (f:=51) [(0,34048)] ZEj rfl rfl rfl rfl rfl rfl rfl (q4) ?_ ?_
  |refine AWL.cMP (f:=52) [(0,34048),(1,2)] ZG9 rfl rfl rfl rfl rfl rfl rfl (q5) ?_ ?_
  |refine AWL.cMP (f:=53) [(0,34048)] ZGp rfl rfl rfl rfl rfl rfl rfl (q6) ?_ ?_
 all_goals(apply_rules (newGoals:= .nonDependentOnly) only[dep];exact())):p:=h
open ZD3 ZuH Zm in
theorem ZBZ (b:List Int)(hb:bytes b)(hl:b.length<=16384):AC Tryz.prog 13 [.view b.length 1 (Zi .u8 b)] (ZHV (Zu9 b)):=by
 obtain⟨X,hX⟩: ∃X,Zu9 b=X:=⟨_,rfl⟩
 rw[hX]
 have hX:ZGg b (Zih b hdB 0)=X:=hX
 have q0:True:=trivial
 have q1:True:=trivial
 have q2:True:=trivial
 have q3:True:=trivial
 have q4:True:=trivial
 have q5:True:=trivial
 have q6:True:=trivial
 have d12:decide ((b.length:Int)>16384)=false:=Yaf (by omega)
 refine ZBY (s1:=sD1 b) (s3:=sD2 b) (d:=75) (x1:= .tmp 2) (x2:= .tmp 3) (k1:=2) (k2:=3) (o1:=⟨false,ZqA⟩) (o2:=⟨false,[.int .i64 0]⟩) Tryz.func13 rfl (Yaa rfl) ZG8 ?hA ?hD (by exact⟨rfl,rfl,rfl⟩) (by exact⟨rfl,rfl,rfl⟩) (by exact Yaa rfl) rfl rfl rfl rfl rfl rfl (fun pn=> ?hF)
 case hA=>
  refine AW.keepPost [0,2,3] [2,3] ?_
  have nx:=trivial
  refine' ZaH
  all_goals first
   |exact⟨rfl,rfl⟩
 case hD=>
  refine AW.keepPost [0,2,3,12] [2,3] ?_
  have nx:=aI @d12 trivial
  refine' ZaH
  all_goals first
   |exact .inr ⟨trivial,rfl⟩
   |exact .inr ⟨rfl,rfl⟩
 clear d12
 refine AW.keep [0,2,3] [2,3] ?_
 try simp(disch:=omega) only[NM,Nat.reduceBEq,reduceAdd,reduceMul,Int.reduceToNat,reduceSub,List.set_cons_zero,List.set_cons_succ]
 refine AW.wkO 2 rfl wkZ ?_
 try simp(disch:=omega) only[NM,Nat.reduceBEq,reduceAdd,reduceMul,Int.reduceToNat,reduceSub,List.set_cons_zero,List.set_cons_succ]
 have o0:okT b 0 b.length:=⟨hb,by omega,Nat.le_refl _,Int.le_refl _,by omega⟩
 have hxb:b.take b.length=b:=Yau
 have nx:=trivial
 refine' ZaH
 refine AW.loop [2,3,4,21,22,23] [2,3,19,20] (fun m st=> ∃(i:Nat) (p:Int),st=Th pn b p i/\i<=8/\okT b p b.length/\ZGg b (Zih b (hdB.drop i) p)=X/\m=8-i) ?_ ?_
 ·exact⟨_,0,0,rfl,Nat.zero_le _,o0,hX,rfl⟩
 clear hX
 rintro m st ⟨i,p,rfl,hi,hp,hX,rfl⟩
 rcases Nat.lt_or_ge i 8 with hi8|hi8
 ·obtain⟨c,hc⟩: ∃c,hdB.getD i 0=c:=⟨_,rfl⟩
  have hdr:hdB.drop i=c::hdB.drop (i+1):=by
   rw[List.drop_eq_getElem_cons (show i<hdB.length from hi8),<- hc,Yah,Yab (show i<hdB.length from hi8)];rfl
  have hc2:([0,97,115,109,1,0,0,0]:List Int).getD i 0=c:=hc
  have e1:decide ((i:Int)<8)=true:=Yae (by omega)
  have ew:IntKind.i64.wrap ((i:Int)+1)=((i+1:Nat):Int):=Zc _ (by omega) (by omega)
  rw[hdr]at hX
  unfold Zih at hX
  have q0:=Zdb hp
  have q0m:=fun n t=>Za2 hp (n:=n) (t:=t)
  unfold TF OKR ERR tpM at q0
  rw[hxb]at q0 q0m
  rcases hy:Zcj b p with⟨e,t⟩|⟨x,t⟩
  all_goals
   rw[hy]at hX q0 q0m
   simp only[Zk,Zn]at hX q0
  ·subst hX
   clear q0m
   have nx:=aI @e1 (aI @hc2 trivial)
   refine' ZaH
   refine ZnQ.mk (.inr ⟨_,rfl,rfl⟩) rfl rfl rfl (Yaa rfl) Zij (Zds _ _ _ _ _ _ _ _ _ _ _ _ _ _ _ _ _ _ _ _ _ _ _ _ _ _ _ _ _ _ _ _ _) rfl ?_
   refine Zf4.mk rfl rfl rfl (.inl rfl) ?_ ?_
   all_goals first
    |exact⟨Yaa rfl,Yaa rfl,trivial⟩
    |exact⟨rfl,rfl⟩
  ·obtain⟨hp2, -,hx⟩:=q0m _ _ rfl
   clear q0m
   by_cases hxc:x=c
   ·have q1:=Zf7
    have f1:(x==c)=true:=beq_iff_eq.2 hxc
    rw[ZaT,if_pos hxc]at hX
    have nx:=aI @e1 (aI @hc2 (aI @f1 (aI @ew trivial)))
    refine' ZaH
    all_goals first
     |exact⟨8-(i+1),by omega,i+1,t,rfl,by omega,hp2,hX,rfl⟩
   ·have q1:=Zfs
    have f1:(x==c)=false:=Yam.2 hxc
    rw[ZaT,if_neg hxc]at hX
    subst hX
    have nx:=aI @e1 (aI @hc2 (aI @f1 trivial))
    refine' ZaH
    refine ZnQ.mk (.inr ⟨_,rfl,rfl⟩) rfl rfl rfl (Yaa rfl) Zij (Zds _ _ _ _ _ _ _ _ _ _ _ _ _ _ _ _ _ _ _ _ _ _ _ _ _ _ _ _ _ _ _ _ _) rfl ?_
    refine Zf4.mk rfl rfl rfl (.inl rfl) ?_ ?_
    all_goals first
     |exact⟨Yaa rfl,Yaa rfl,trivial⟩
     |exact⟨rfl,rfl⟩
 ·obtain rfl:i=8:=by omega
  have hX:ZGg b (.ok ((),p))=X:=hX
  have hX:Zzh (Zf0 b b.length 0 { ZnR with start:= -1 } p)=X:=hX
  have e1:decide (((8:Nat):Int)<8)=false:=by decide
  have nx:=aI @e1 trivial
  refine' ZaH
  refine AW.loop [2,3,4,7] [2,3,19] (fun m st=> ∃(n:Nat) (last:Int) (md:Mod) (p:Int),st=Ts pn b p last md/\okT b p b.length/\byte last/\Zzh (Zf0 b n last md p)=X/\b.length-p<=n/\n=m) ?_ ?_
  ·exact⟨_,b.length,0,{ ZnR with start:= -1 },p,rfl,hp,⟨by decide,by decide⟩,hX,by have:=hp.p0;omega,rfl⟩
  clear hX hp
  rintro m st ⟨n,last,md,p,rfl,hp,hla,hX,hn,rfl⟩
  obtain⟨B,hB⟩: ∃B,decide (p<(b.length:Int))=B:=⟨_,rfl⟩
  have nx:=trivial
  refine' Zx0
  refine AW.cutN [2,3,4,7,42] [2,3,19] (Tsb pn b p last md B) ?_ ?_
  ·have nx:=aI @hB trivial
   refine' ZxA
   all_goals first
    |exact⟨rfl,rfl⟩
    |exact⟨trivial,rfl⟩
  by_cases hpe:p<b.length
  ·have d0:decide (p<(b.length:Int))=true:=Yae hpe
   rw[d0]at hB
   subst hB
   rcases n with _|n
   ·omega
   rw[Zf0,if_pos hpe]at hX
   unfold Zz6 at hX
   have q0:=Zdb hp
   have q0m:=fun n t=>Za2 hp (n:=n) (t:=t)
   unfold TF OKR ERR tpM at q0
   rw[hxb]at q0 q0m
   rcases hy:Zcj b p with⟨e,t⟩|⟨id,t⟩
   all_goals
    rw[hy]at hX q0 q0m
    simp only[Zk,Zn]at hX q0
   ·subst hX
    clear q0m
    have nx:=aI @d0 trivial
    refine' ZaH
    refine ZnQ.mk (.inr ⟨_,rfl,rfl⟩) rfl rfl rfl (Yaa rfl) Zij (Zds _ _ _ _ _ _ _ _ _ _ _ _ _ _ _ _ _ _ _ _ _ _ _ _ _ _ _ _ _ _ _ _ _) rfl ?_
    refine Zf4.mk rfl rfl rfl (.inl rfl) ?_ ?_
    all_goals first
     |exact⟨Yaa rfl,Yaa rfl,trivial⟩
     |exact⟨rfl,rfl⟩
   obtain⟨hp2,ht1,hid⟩:=q0m _ _ rfl
   clear q0m hp
   unfold Zg0 at hX
   have q2:=ZcC hp2
   have q2m:=fun n t=>Zbo hp2 (n:=n) (t:=t)
   unfold TF OKR ERR tpM at q2
   rw[hxb]at q2 q2m
   rcases hy2:nmT b t with⟨e,t2⟩|⟨n1,t2⟩
   all_goals
    rw[hy2]at hX q2 q2m
    simp only[Zk,Zn]at hX q2
   ·subst hX
    clear q2m
    have nx:=aI @d0 trivial
    refine' ZaH
    refine ZnQ.mk (.inr ⟨_,rfl,rfl⟩) rfl rfl rfl (Yaa rfl) Zij (Zds _ _ _ _ _ _ _ _ _ _ _ _ _ _ _ _ _ _ _ _ _ _ _ _ _ _ _ _ _ _ _ _ _) rfl ?_
    refine Zf4.mk rfl rfl rfl (.inl rfl) ?_ ?_
    all_goals first
     |exact⟨Yaa rfl,Yaa rfl,trivial⟩
     |exact⟨rfl,rfl⟩
   obtain⟨hp3,ht2,hn1⟩:=q2m _ _ rfl
   clear q2m hp2
   have q3:=Zln hp3 n1 hn1
   unfold tpM at q3
   unfold ZoN at hX
   by_cases c:n1<=b.length-t2
   case neg=>
    rw[if_pos (by omega)]at hX
    simp only[c,not_false_eq_true,true_and,false_and]at q3
    simp only[Zn]at hX
    subst hX
    have nx:=aI @d0 trivial
    refine' ZaH
    refine ZnQ.mk (.inr ⟨_,rfl,rfl⟩) rfl rfl rfl (Yaa rfl) Zij (Zds _ _ _ _ _ _ _ _ _ _ _ _ _ _ _ _ _ _ _ _ _ _ _ _ _ _ _ _ _ _ _ _ _) rfl ?_
    refine Zf4.mk rfl rfl rfl (.inl rfl) ?_ ?_
    all_goals first
     |exact⟨Yaa rfl,Yaa rfl,trivial⟩
     |exact⟨rfl,rfl⟩
   rw[if_neg (by omega)]at hX
   simp only[c,true_and,not_true_eq_false,false_and]at q3
   have h20:=hp3.p0
   obtain⟨en,hen⟩: ∃k:Nat,t2+n1=k:=⟨(t2+n1).toNat,by omega⟩
   have hp4:okT b t2 en:=⟨hp3.hb,hp3.hl,by omega,h20,by omega⟩
   have hp5:okT b en b.length:=⟨hp3.hb,hp3.hl,Nat.le_refl _,by omega,by omega⟩
   have hle:p<(en:Int):=by omega
   rw[hen]at q3 hX
   simp only[Zk]at hX
   by_cases c0:id=0
   ·subst c0
    rw[if_pos rfl,ZAq]at hX
    have q4:=ZiB hp4
    unfold TF OKR ERR tpM at q4
    rcases hy4:Ze3 (b.take en) t2 with⟨e,t4⟩|⟨nm,t4⟩
    all_goals
     rw[hy4]at hX q4
     simp only[Zk,Zn]at hX q4
    ·subst hX
     have nx:=aI @d0 trivial
     refine' ZaH
     refine ZnQ.mk (.inr ⟨_,rfl,rfl⟩) rfl rfl rfl (Yaa rfl) Zij (Zds _ _ _ _ _ _ _ _ _ _ _ _ _ _ _ _ _ _ _ _ _ _ _ _ _ _ _ _ _ _ _ _ _) rfl ?_
     refine Zf4.mk rfl rfl rfl (.inl rfl) ?_ ?_
     all_goals first
      |exact⟨Yaa rfl,Yaa rfl,trivial⟩
      |exact⟨rfl,rfl⟩
    ·have nx:=aI @d0 trivial
     refine' ZaH
     all_goals first
      |exact⟨n,by omega,n,last,md,en,rfl,hp5,hla,hX,by omega,rfl⟩
   have f0:(id==0)=false:=Yam.2 c0
   rw[if_neg c0,ZAq]at hX
   by_cases c1:id>last
   case neg=>
    have f1:decide (last<id)=false:=Yaf c1
    have f2:decide (id>last)=false:=Yaf c1
    rw[ZaT,if_neg (fun h=>c1 h.1)]at hX
    simp only[Zn]at hX
    have q1:=Zfs
    subst hX
    have nx:=aI @d0 (aI @f0 (aI @f1 (aI @f2 trivial)))
    refine' ZaH
    refine ZnQ.mk (.inr ⟨_,rfl,rfl⟩) rfl rfl rfl (Yaa rfl) Zij (Zds _ _ _ _ _ _ _ _ _ _ _ _ _ _ _ _ _ _ _ _ _ _ _ _ _ _ _ _ _ _ _ _ _) rfl ?_
    refine Zf4.mk rfl rfl rfl (.inl rfl) ?_ ?_
    all_goals first
     |exact⟨Yaa rfl,Yaa rfl,trivial⟩
     |exact⟨rfl,rfl⟩
   have f1:decide (last<id)=true:=Yae c1
   have f2:decide (id>last)=true:=Yae c1
   by_cases c2:id<=11
   case neg=>
    have f3:decide (id<=11)=false:=Yaf c2
    rw[ZaT,if_neg (fun h=>c2 h.2)]at hX
    simp only[Zn]at hX
    have q1:=Zfs
    subst hX
    have nx:=aI @d0 (aI @f0 (aI @f1 (aI @f2 (aI @f3 trivial))))
    refine' ZaH
    refine ZnQ.mk (.inr ⟨_,rfl,rfl⟩) rfl rfl rfl (Yaa rfl) Zij (Zds _ _ _ _ _ _ _ _ _ _ _ _ _ _ _ _ _ _ _ _ _ _ _ _ _ _ _ _ _ _ _ _ _) rfl ?_
    refine Zf4.mk rfl rfl rfl (.inl rfl) ?_ ?_
    all_goals first
     |exact⟨Yaa rfl,Yaa rfl,trivial⟩
     |exact⟨rfl,rfl⟩
   have f3:decide (id<=11)=true:=Yae c2
   rw[ZaT,if_pos ⟨c1,c2⟩]at hX
   have q1:=Zf7
   have hid1:1<=id/\id<=11:=⟨by have:=hid.1;omega,c2⟩
   have q5:=ZBE hp4 id hid1 md
   have q5m:=fun x t=>ZBW hp4 (id:=id) (m:=md) (x:=x) (t:=t)
   unfold OKS ERS tpM at q5
   rcases hy5:Znj (b.take en) id md t2 with⟨e,t5⟩|⟨md2,t5⟩
   all_goals
    rw[hy5]at hX q5 q5m
    simp only[Zk,Zn]at hX q5
   ·subst hX
    clear q5m
    have nx:=aI @d0 (aI @f0 (aI @f1 (aI @f2 (aI @f3 trivial))))
    refine' ZaH
    refine ZnQ.mk (.inr ⟨_,rfl,rfl⟩) rfl rfl rfl (Yaa rfl) Zij (Zds _ _ _ _ _ _ _ _ _ _ _ _ _ _ _ _ _ _ _ _ _ _ _ _ _ _ _ _ _ _ _ _ _) rfl ?_
    refine Zf4.mk rfl rfl rfl (.inl rfl) ?_ ?_
    all_goals first
     |exact⟨Yaa rfl,Yaa rfl,trivial⟩
     |exact⟨rfl,rfl⟩
   obtain⟨hp6,h26⟩:=q5m _ _ rfl
   clear q5m
   have q6:=ZqB hp6
   have hlen4:=hp4.len
   unfold TF OKR ERR tpM at q6
   rw[ZBX,hlen4]at hX q6
   by_cases c5:t5=en
   ·rw[if_pos c5]at hX q6
    simp only[Zk]at hX q6
    have nx:=aI @d0 (aI @f0 (aI @f1 (aI @f2 (aI @f3 trivial))))
    refine' ZaH
    all_goals first
     |exact⟨n,by omega,n,id,md2,en,rfl,hp5,hid,hX,by omega,rfl⟩
   ·rw[if_neg c5]at hX q6
    simp only[Zn]at hX q6
    subst hX
    have nx:=aI @d0 (aI @f0 (aI @f1 (aI @f2 (aI @f3 trivial))))
    refine' ZaH
    refine ZnQ.mk (.inr ⟨_,rfl,rfl⟩) rfl rfl rfl (Yaa rfl) Zij (Zds _ _ _ _ _ _ _ _ _ _ _ _ _ _ _ _ _ _ _ _ _ _ _ _ _ _ _ _ _ _ _ _ _) rfl ?_
    refine Zf4.mk rfl rfl rfl (.inl rfl) ?_ ?_
    all_goals first
     |exact⟨Yaa rfl,Yaa rfl,trivial⟩
     |exact⟨rfl,rfl⟩
  ·have d0:decide (p<(b.length:Int))=false:=Yaf hpe
   rw[d0]at hB
   subst hB
   have hX:Zzh (.ok (md,p))=X:=by
    rw[<- hX]
    cases n with
    |zero=>rfl
    |succ n=>rw[Zf0,if_neg hpe]
   have hX:ZaT (md.codes.length=md.funcs.length) (fun t=> .ok (md,t)) p=X:=hX
   by_cases cc:md.codes.length=md.funcs.length
   ·have q1:=Zf7
    have f1:((md.codes.length:Int)==(md.funcs.length:Int))=true:=beq_iff_eq.2 (by omega)
    rw[ZaT,if_pos cc]at hX
    subst hX
    have nx:=aI @d0 (aI @f1 trivial)
    refine' ZaH
    refine ZnQ.mk (.inl ⟨rfl,rfl⟩) rfl rfl rfl (Yaa rfl) Zij (ZA1 _ _ _ _ _ _ _ _ _ _ _ _ _ _ _ _ _ _ _ _ _ _ _ _ _ _ _ _ _ _ _ _) rfl ?_
    refine Zf4.mk rfl rfl rfl (.inl rfl) ?_ ?_
    all_goals first
     |exact⟨Yaa rfl,Yaa rfl,trivial⟩
     |exact⟨rfl,rfl⟩
   ·have q1:=Zfs
    have f1:((md.codes.length:Int)==(md.funcs.length:Int))=false:=Yam.2 (by omega)
    rw[ZaT,if_neg cc]at hX
    subst hX
    have nx:=aI @d0 (aI @f1 trivial)
    refine' ZaH
    refine ZnQ.mk (.inr ⟨_,rfl,rfl⟩) rfl rfl rfl (Yaa rfl) Zij (Zds _ _ _ _ _ _ _ _ _ _ _ _ _ _ _ _ _ _ _ _ _ _ _ _ _ _ _ _ _ _ _ _ _) rfl ?_
    refine Zf4.mk rfl rfl rfl (.inl rfl) ?_ ?_
    all_goals first
     |exact⟨Yaa rfl,Yaa rfl,trivial⟩
     |exact⟨rfl,rfl⟩
end
end Go.Proofs.YtimhmpdfioihlaaGreatDoor
namespace Go.Proofs.YtimhmpdfioihlaaGreatDoor
set_option maxRecDepth 20000
open Go Go.Abs Nat
attribute [local irreducible] AW AWL AC FW CW CWr IntKind.wrap
open MB
open ZuH Zm in
theorem Zzi (b:List Int)(hl: ¬b.length<=16384):AC Tryz.prog 13 [.view b.length 1 (Zi .u8 b)] (fun v m=>m=[]/\v= .tup [.agg ZqA,.int .i64 4]):=by
 have d12:decide ((b.length:Int)>16384)=true:=Yae (by omega)
 refine AC.enter Tryz.func13 rfl (Yaa rfl) ?_
 simp only[Tryz.f13]
 have nx:=aI @d12 trivial
 refine' ZxT
 all_goals first
  |exact⟨trivial,rfl⟩
  |exact⟨rfl,rfl⟩
theorem ZnM (b:List Int)(hb:bytes b):AC Tryz.prog 13 [.view b.length 1 (Zi .u8 b)] (fun v m=>v= .tup [.agg (Zb9 (Zkx b).1),.int .i64 (Zkx b).2]/\m=[]):=by
 by_cases hl:b.length<=16384
 ·refine(ZBZ b hb hl).out fun v mm h=> ?_
  obtain⟨rfl,h⟩:=h
  rw[show Zkx b=match Zu9 b with
   |.ok (m,_)=>(m,0)
   |.error (e,_)=>(ZnR,e)from if_neg (by omega)]
  rcases hx:Zu9 b with⟨e,t⟩|⟨m,t⟩
  all_goals rw[hx]at h
  ·have h:v= .tup [.agg ZqA,.int .i64 e]:=h
   subst h
   exact⟨_,_,⟨rfl,rfl⟩,fun S w w' u ho=>ho.wk (Wk.tup (.cons (Wk.agg wkZ) (WkL.refl _)))⟩
  ·have h:v= .tup [.agg (Zb9 m),.int .i64 0]:=h
   subst h
   exact⟨_,_,⟨rfl,rfl⟩,fun _ _ _ _ ho=>ho⟩
 ·refine(Zzi b hl).out fun v mm h=> ?_
  obtain⟨rfl,rfl⟩:=h
  rw[show Zkx b=(ZnR,4)from if_pos (by omega)]
  exact⟨_,_,⟨rfl,rfl⟩,fun S w w' u ho=>ho.wk (Wk.tup (.cons (Wk.agg wkZ) (WkL.refl _)))⟩
end Go.Proofs.YtimhmpdfioihlaaGreatDoor
