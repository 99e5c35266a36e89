/- What is written of a module is read again: sections, the whole. -/
import Derived.Test.YtimhmpdfioihlaaGreatDoorGV6
import Derived.Test.YtimhmpdfioihlaaGreatDoorGEB2
import Derived.Test.YtimhmpdfioihlaaGreatDoorGEN6
import Derived.Test.YtimhmpdfioihlaaGreatDoorGMMv
set_option linter.unusedSimpArgs false
set_option linter.unusedVariables false
namespace Go.Proofs.YtimhmpdfioihlaaGreatDoor
set_option maxRecDepth 20000
open Go Go.Abs
def Stg (B:List Int)(lo hi:Int)(m m':Mod):Prop:= ∀(xs:List Int) (n:Nat) (last:Int) (p:Nat),bytes xs->AtB xs p B->last<lo->xs.length<=n+p->
 ∃(n':Nat) (last':Int),last'<=hi/\xs.length<=n'+(p+B.length)/\Zf0 xs n last m p=Zf0 xs n' last' m' ((p+B.length:Nat):Int)
theorem Stg.comp {B C:List Int}{lo i k j:Int}{m m' m'':Mod}(h1:Stg B lo i m m')(h2:Stg C k j m' m'')(hij:i<k):Stg (B++C) lo j m m'':=by
 intro xs n last p hb ha hl hn
 obtain⟨a1,a2⟩:=ha.app
 obtain⟨n1,l1,g1,g2,g3⟩:=h1 xs n last p hb a1 hl hn
 obtain⟨n2,l2,k1,k2,k3⟩:=h2 xs n1 l1 _ hb a2 (by omega) g2
 rw[Yal,<- Nat.add_assoc]
 exact⟨n2,l2,k1,k2,g3.trans k3⟩
theorem Stg.nil (id:Int)(m:Mod):Stg [] id id m m:=fun _ n last p _ _ hl hn=>⟨n,last,Int.le_of_lt hl,hn,rfl⟩
theorem Zwc {P:List Int}{id:Int}{m m':Mod}(hid:1<=id/\id<=11)(hn:Zaf (P.length:Int)=true)(h:RdB (fun xs p=>Znj xs id m p) P m'):Stg ([id]++(uB (P.length:Int)++P)) id id m m':=by
 intro xs n last p hb ha hl hle
 have hlen:=ha.len
 obtain⟨a1,a2⟩:=ha.app
 have hpart:=Zo4 hn hb a2
 have a3:=a2.app.2
 rw[List.length_singleton]at a2 a3 hpart
 rw[Yal,Yal,List.length_singleton]at hlen ⊢
 obtain⟨n,rfl⟩: ∃k,n=k+1:=⟨n-1,by omega⟩
 refine⟨n,id,Int.le_refl _,by omega,?_⟩
 rw[Zf0,if_pos (by omega)]
 have hat:=a3.take (t:=p+1+(uB (P.length:Int)).length+P.length) (Nat.le_refl _)
 have hlen2:(xs.take (p+1+(uB (P.length:Int)).length+P.length)).length=p+1+(uB (P.length:Int)).length+P.length:=by
  rw[Yar];omega
 have hb2:=ZiF hb (p+1+(uB (P.length:Int)).length+P.length)
 have hs:Zz6 xs last m p= .ok ((id,m'),((p+1+(uB (P.length:Int)).length+P.length:Nat):Int)):=by
  unfold Zz6
  rw[ZdX id xs p hb a1,Zk]
  rw[List.length_singleton,hpart,Zk,if_neg (by omega)]
  unfold inT
  rw[Yap]
  generalize xs.take (p+1+(uB (P.length:Int)).length+P.length)=ys at hat hlen2 hb2
  have hr:=h ys _ hb2 hat
  simp only at hr
  have e5:ZaT (id>last/\id<=11) (fun p=>bnd (Znj ys id m p) fun m t=>Zll ys (id,m) t) ((p+1+(uB (P.length:Int)).length:Nat):Int)= .ok ((id,m'),((p+1+(uB (P.length:Int)).length+P.length:Nat):Int)):=by
   unfold ZaT
   rw[if_pos (show id>last/\id<=11 by omega)]
   show bnd (Znj ys id m _) _=_
   rw[hr,Zk]
   unfold Zll ZaT
   rw[if_pos (by omega)]
  simp only
  rw[e5]
 rw[hs,Zk]
 rw[show p+(1+((uB (P.length:Int)).length+P.length))=p+1+(uB (P.length:Int)).length+P.length by omega]
theorem ZAn {α:Type}{f:α->Ow->Ow}{B:α->List Int}{K:α->Bool}: ∀l:List α,(∀x∈l,Ap (f x) (B x) (K x))->Ap (ZbA f l) (l.flatMap B) (l.all K)
 |[],_=>Zsa
 |x::l,h=>by
  rw[List.flatMap_cons,List.all_cons]
  exact(h x (List.mem_cons_self ..)).comp (ZAn l (fun y hy=>h y (Yaq _ hy)))
theorem Zwd {id:Int}(hid:1<=id/\id<=11){c:Bool}{P:List Int}{K:Bool}(hP:bytes P)(p:Ow->Ow)(hb: ∀o,(p o).b=P)(hk: ∀o,(p o).bad=(o.bad|| !K)):Ap (fun o=>Zf1 id (p o) o) ([id]++(uB (P.length:Int)++P)) (K&&Zaf (P.length:Int)):=
 ⟨fun o=>by
  unfold Zf1
  show((o.b++[id])++uB ((p o).b.length:Int))++(p o).b=_
  rw[hb o]
  simp only[Ya6],fun o=>by
  unfold Zf1
  show((o.bad|| !(!(p o).bad))|| !(Zaf ((p o).b.length:Int)))=_
  rw[hb o,hk o]
  generalize Zaf (P.length:Int)=z
  cases o.bad<;>cases K<;>cases z<;>rfl,Zba (ZaF (by omega)) (Zba (ZeS _) hP)⟩
theorem ZAo {α:Type}{f:α->Ow->Ow}{id most:Int}{l:List α}{P:List Int}{K:Bool}(hid:1<=id/\id<=11)(hl: ¬l.length=0)(hrow:Ap (fun o=>ZbA f l (Z9 [(l.length:Int)] o)) P K):Ap (Zbk f id most l) ([id]++(uB (P.length:Int)++P)) (decide ((l.length:Int)<=most)&&K&&Zaf (P.length:Int)):=by
 have hput:=Zwd hid (c:=true) (P:=P) (K:=decide ((l.length:Int)<=most)&&K) hrow.by_ (fun o=>ZbA f l (Z9 [(l.length:Int)] ⟨[],(Zy (decide ((l.length:Int)<=most)) o).bad⟩)) (fun o=>by
  have:=hrow.b ⟨[],(Zy (decide ((l.length:Int)<=most)) o).bad⟩
  rw[List.nil_append]at this
  exact this) (fun o=>by
  have:=hrow.bad ⟨[],(Zy (decide ((l.length:Int)<=most)) o).bad⟩
  refine this.trans ?_
  show((o.bad|| !(decide ((l.length:Int)<=most)))|| !K)=_
  generalize decide ((l.length:Int)<=most)=z
  cases o.bad<;>cases z<;>cases K<;>rfl)
 have e:Zbk f id most l=fun o=>Zf1 id (ZbA f l (Z9 [(l.length:Int)] ⟨[],(Zy (decide ((l.length:Int)<=most)) o).bad⟩)) (Zy (decide ((l.length:Int)<=most)) o):=by
  funext o
  unfold Zbk
  rw[if_neg hl]
 rw[e]
 refine⟨fun o=>hput.b o,fun o=> ?_,hput.by_⟩
 have:=hput.bad o
 have h2:(Zf1 id (ZbA f l (Z9 [(l.length:Int)] ⟨[],(Zy (decide ((l.length:Int)<=most)) o).bad⟩)) (Zy (decide ((l.length:Int)<=most)) o)).bad=((Zf1 id (ZbA f l (Z9 [(l.length:Int)] ⟨[],(Zy (decide ((l.length:Int)<=most)) o).bad⟩)) o).bad|| !(decide ((l.length:Int)<=most))):=by
  unfold Zf1
  show(((o.bad|| !(decide ((l.length:Int)<=most)))||_)||_)=(((o.bad||_)||_)||_)
  generalize decide ((l.length:Int)<=most)=z
  generalize (!Zaf _)=z2
  generalize (!(!Ow.bad _))=z3
  cases o.bad<;>cases z<;>cases z2<;>cases z3<;>rfl
 rw[h2]
 refine(congrArg (· || !(decide ((l.length:Int)<=most))) this).trans ?_
 show((o.bad|| !((decide ((l.length:Int)<=most)&&K)&&Zaf (P.length:Int)))|| !(decide ((l.length:Int)<=most)))=_
 generalize decide ((l.length:Int)<=most)=z
 generalize Zaf (P.length:Int)=z2
 cases o.bad<;>cases z<;>cases z2<;>cases K<;>rfl
theorem Zo9 {α:Type}{f:α->Ow->Ow}{id most:Int}{l:List α}(hmost:0<=most)(hl:l.length=0):Ap (Zbk f id most l) [] true:=by
 have e:Zbk f id most l=Zy true:=by
  funext o
  unfold Zbk
  rw[if_pos hl,hl,Yae (by exact hmost)]
 rw[e];exact ZcG true
theorem Zj2 {α:Type}{f:α->Ow->Ow}{T:List Int->Int->Res α}{id most:Int}{l:List α}{m m':Mod}(h: ∀x∈l,Wr (f x) T x)(hid:1<=id/\id<=11)(h0:l=[]->m'=m)(hmost:0<=most)
 (hsec: ∀B,RdB (fun xs p=>Z3 xs most (T xs) p) B l->RdB (fun xs p=>Znj xs id m p) B m'): ∃B K,Ap (Zbk f id most l) B K/\(K=true->Stg B id id m m'):=by
 by_cases hl:l.length=0
 ·have hl0:=Yay hl
  exact⟨[],true,Zo9 hmost hl,fun _=>by rw[h0 hl0];exact Stg.nil id m⟩
 ·have hch: ∀x:α,∃BK:List Int×Bool,x∈l->Ap (f x) BK.1 BK.2/\(BK.2=true->RdB T BK.1 x):=fun x=>by
   by_cases hx:x∈l
   ·obtain⟨B,K,g⟩:=h x hx
    exact⟨(B,K),fun _=>g⟩
   ·exact⟨([],true),fun g=>absurd g hx⟩
  have⟨F,hF⟩: ∃F:α->List Int×Bool,∀x,x∈l->Ap (f x) (F x).1 (F x).2/\((F x).2=true->RdB T (F x).1 x):=⟨fun x=>(hch x).choose,fun x=>(hch x).choose_spec⟩
  have hrow:=(ZaX (l.length:Int)).comp (ZAn (f:=f) (B:=fun x=>(F x).1) (K:=fun x=>(F x).2) l (fun x hx=>(hF x hx).1))
  refine⟨_,_,ZAo hid hl hrow,fun hk=> ?_⟩
  simp only[Yao,Yaz]at hk
  obtain⟨⟨k1,k2⟩,k3⟩:=hk
  refine Zwc hid k3 (hsec _ ?_)
  exact ZlG l k1 k2.1 (fun x hx=>(hF x hx).2 (Yat.1 k2.2 x hx))
theorem Zga {α:Type}{T:List Int->Int->Res α}{most:Int}{B:List Int}{l:List α}(h:RdB (fun xs p=>Z3 xs most (T xs) p) B l){m':List α->Mod}:RdB (fun xs p=>bnd (Z3 xs most (T xs) p) fun l t=> .ok (m' l,t)) B (m' l):=by
 intro xs p hb ha
 have:=h xs p hb ha
 simp only at this ⊢
 rw[this];rfl
def okC (c:List Ins):Prop:=(∀i∈c,ZbM i)/\c.length<=1048576/\(ZeJ c).length<=1000000000
structure OkM (m:Mod):Prop where
 g: ∀x∈m.globals,okC x.c
 e: ∀x∈m.elems,okC x.c
 c: ∀x∈m.codes,okC x.c
 d: ∀x∈m.datas,okC x.c/\bytes x.b
theorem Zwe {xs:List Int}(hb:bytes xs): ∀(l:List Int) (p:Nat),AtB xs p l->Zih xs l p= .ok ((),((p+l.length:Nat):Int))
 |[],_,_=>rfl
 |c::l,p,h=>by
  have h:AtB xs p ([c]++l):=h
  obtain⟨h1,h2⟩:=h.app
  rw[Zih,ZdX c xs p hb h1,Zk]
  unfold ZaT
  rw[if_pos rfl]
  have:=Zwe hb l _ h2
  have e9:p+[c].length+l.length=p+(c::l).length:=by simp only[Yag,List.length_nil];omega
  rw[this,e9]
theorem ZGe {m:Mod}{s:Int}(h:Zaf s=true):RdB (fun xs p=>Znj xs 8 m p) (uB s) { m with start:=s }:=by
 intro xs p hb ha
 show Znj xs 8 m p=_
 unfold Znj
 simp only[Int.reduceEq,↓reduceIte]
 rw[ZjI h xs p hb ha];rfl
theorem ZD0 {m m':Mod}{s:Int}(h:{ m with start:=s }=m')(h1:s= -1->m'=m): ∃B K,Ap (fun o=>Zef s (Zy (decide (s >= -1)) o)) B K/\(K=true->Stg B 8 8 m m'):=by
 by_cases hs:s>=0
 ·have hp:bytes (uB s):=ZeS s
  have hput:=Zwd (id:=8) (by omega) (c:=true) (P:=uB s) (K:=Zaf s) hp (fun _=>Z9 [s] ⟨[],false⟩) (fun _=>rfl)
  refine⟨[8]++(uB ((uB s).length:Int)++uB s),Zaf s&&Zaf ((uB s).length:Int),⟨fun o=> ?_,fun o=> ?_,Zba (ZaF (by omega)) (Zba (ZeS _) hp)⟩,fun hk=> ?_⟩
  ·unfold Zef
   rw[if_pos hs]
   show(o.b++[8]++uB ((uB s).length:Int))++uB s=_
   simp only[Ya6]
  ·unfold Zef
   rw[if_pos hs]
   show(((o.bad|| !(decide (s >= -1)))|| !(!(false|| !(Zaf s))))|| !(Zaf ((uB s).length:Int)))=_
   rw[Yae (by omega)]
   generalize Zaf ((uB s).length:Int)=z
   generalize Zaf s=z2
   cases o.bad<;>cases z<;>cases z2<;>rfl
  ·simp only[Yao]at hk
   rw[<- h]
   exact Zwc (by omega) hk.2 (ZGe hk.1)
 ·refine⟨[],decide (s >= -1),?_,fun hk=> ?_⟩
  ·have e:(fun o=>Zef s (Zy (decide (s >= -1)) o))=Zy (decide (s >= -1)):=by
    funext o;unfold Zef;rw[if_neg hs]
   rw[e];exact ZcG _
  ·rw[Yaz]at hk
   rw[h1 (by omega)]
   exact Stg.nil 8 m
theorem ZBI (m:Mod)(h:OkM m): ∃B K,Ap (fun o=>Zbk Zhd 11 512 m.datas<|Zbk Ze4 10 512 m.codes<|Zbk Zhe 9 512 m.elems<|Zef m.start<|Zy (decide (m.start >= -1)) <|
 Zbk ZqL 7 512 m.exports<|Zbk Zhf 6 512 m.globals<|Zbk Zr1 5 512 m.mems<|Zbk ZqW 4 512 m.tables<|Zbk ZoX 3 512 m.funcs <|
 Zbk ZqP 2 512 m.imports<|Zbk ZqN 1 256 m.types o) B K/\(K=true->Stg B 1 11 { ZnR with start:= -1 } m):=by
 obtain⟨ty,im,fu,ta,me,gl,ex,st,el,co,da⟩:=m
 obtain⟨hg,he,hc,hd⟩:=h
 simp only at hg he hc hd ⊢
 obtain⟨B1,K1,a1,s1⟩:=Zj2 (id:=1) (most:=256) (m:=⟨[],[],[],[],[],[],[], -1,[],[],[]⟩) (m':=⟨ty,[],[],[],[],[],[], -1,[],[],[]⟩) (T:=Zqw) (fun x _=>ZDV x) (by omega) (fun h=>by rw[h]) (by omega) (fun B h=>Zga h (m':=fun l=>⟨l,[],[],[],[],[],[], -1,[],[],[]⟩))
 obtain⟨B2,K2,a2,s2⟩:=Zj2 (id:=2) (most:=512) (m:=⟨ty,[],[],[],[],[],[], -1,[],[],[]⟩) (m':=⟨ty,im,[],[],[],[],[], -1,[],[],[]⟩) (T:=Zqx) (fun x _=>ZDW x) (by omega) (fun h=>by rw[h]) (by omega) (fun B h=>Zga h (m':=fun l=>⟨ty,l,[],[],[],[],[], -1,[],[],[]⟩))
 obtain⟨B3,K3,a3,s3⟩:=Zj2 (id:=3) (most:=512) (m:=⟨ty,im,[],[],[],[],[], -1,[],[],[]⟩) (m':=⟨ty,im,fu,[],[],[],[], -1,[],[],[]⟩) (T:=nmT) (fun x _=>ZDU x) (by omega) (fun h=>by rw[h]) (by omega) (fun B h=>Zga h (m':=fun l=>⟨ty,im,l,[],[],[],[], -1,[],[],[]⟩))
 obtain⟨B4,K4,a4,s4⟩:=Zj2 (id:=4) (most:=512) (m:=⟨ty,im,fu,[],[],[],[], -1,[],[],[]⟩) (m':=⟨ty,im,fu,ta,[],[],[], -1,[],[],[]⟩) (T:=ZoO) (fun x _=>ZDX x) (by omega) (fun h=>by rw[h]) (by omega) (fun B h=>Zga h (m':=fun l=>⟨ty,im,fu,l,[],[],[], -1,[],[],[]⟩))
 obtain⟨B5,K5,a5,s5⟩:=Zj2 (id:=5) (most:=512) (m:=⟨ty,im,fu,ta,[],[],[], -1,[],[],[]⟩) (m':=⟨ty,im,fu,ta,me,[],[], -1,[],[],[]⟩) (T:=fun xs=>Zjx xs 16) (fun x _=>ZDY x) (by omega) (fun h=>by rw[h]) (by omega) (fun B h=>Zga h (m':=fun l=>⟨ty,im,fu,ta,l,[],[], -1,[],[],[]⟩))
 obtain⟨B6,K6,a6,s6⟩:=Zj2 (id:=6) (most:=512) (m:=⟨ty,im,fu,ta,me,[],[], -1,[],[],[]⟩) (m':=⟨ty,im,fu,ta,me,gl,[], -1,[],[],[]⟩) (T:=Zg1) (fun x hx=>ZBB x (hg x hx).1) (by omega) (fun h=>by rw[h]) (by omega) (fun B h=>Zga h (m':=fun l=>⟨ty,im,fu,ta,me,l,[], -1,[],[],[]⟩))
 obtain⟨B7,K7,a7,s7⟩:=Zj2 (id:=7) (most:=512) (m:=⟨ty,im,fu,ta,me,gl,[], -1,[],[],[]⟩) (m':=⟨ty,im,fu,ta,me,gl,ex, -1,[],[],[]⟩) (T:=Zqy) (fun x _=>ZDZ x) (by omega) (fun h=>by rw[h]) (by omega) (fun B h=>Zga h (m':=fun l=>⟨ty,im,fu,ta,me,gl,l, -1,[],[],[]⟩))
 obtain⟨B8,K8,a8,s8⟩:=ZD0 (m:=⟨ty,im,fu,ta,me,gl,ex, -1,[],[],[]⟩) (m':=⟨ty,im,fu,ta,me,gl,ex,st,[],[],[]⟩) (s:=st) rfl (fun h=>by rw[h])
 obtain⟨B9,K9,a9,s9⟩:=Zj2 (id:=9) (most:=512) (m:=⟨ty,im,fu,ta,me,gl,ex,st,[],[],[]⟩) (m':=⟨ty,im,fu,ta,me,gl,ex,st,el,[],[]⟩) (T:=Zg2) (fun x hx=>ZBC x (he x hx).1) (by omega) (fun h=>by rw[h]) (by omega) (fun B h=>Zga h (m':=fun l=>⟨ty,im,fu,ta,me,gl,ex,st,l,[],[]⟩))
 obtain⟨B10,K10,a10,s10⟩:=Zj2 (id:=10) (most:=512) (m:=⟨ty,im,fu,ta,me,gl,ex,st,el,[],[]⟩) (m':=⟨ty,im,fu,ta,me,gl,ex,st,el,co,[]⟩) (T:=Zg4) (fun x hx=>ZBH x (hc x hx).1) (by omega) (fun h=>by rw[h]) (by omega) (fun B h=>Zga h (m':=fun l=>⟨ty,im,fu,ta,me,gl,ex,st,el,l,[]⟩))
 obtain⟨B11,K11,a11,s11⟩:=Zj2 (id:=11) (most:=512) (m:=⟨ty,im,fu,ta,me,gl,ex,st,el,co,[]⟩) (m':=⟨ty,im,fu,ta,me,gl,ex,st,el,co,da⟩) (T:=Zg3) (fun x hx=>ZBD x (hd x hx).1.1 (hd x hx).2) (by omega) (fun h=>by rw[h]) (by omega) (fun B h=>Zga h (m':=fun l=>⟨ty,im,fu,ta,me,gl,ex,st,el,co,l⟩))
 refine⟨_,_,((((((((((a1.comp a2).comp a3).comp a4).comp a5).comp a6).comp a7).comp a8).comp a9).comp a10).comp a11),fun hk=> ?_⟩
 simp only[Yao]at hk
 obtain⟨⟨⟨⟨⟨⟨⟨⟨⟨⟨k1,k2⟩,k3⟩,k4⟩,k5⟩,k6⟩,k7⟩,k8⟩,k9⟩,k10⟩,k11⟩:=hk
 exact((((((((((s1 k1).comp (s2 k2) (by omega)).comp (s3 k3) (by omega)).comp (s4 k4) (by omega)).comp (s5 k5) (by omega)).comp (s6 k6) (by omega)).comp (s7 k7) (by omega)).comp (s8 k8) (by omega)).comp (s9 k9) (by omega)).comp (s10 k10) (by omega)).comp (s11 k11) (by omega)
theorem ZBJ {m:Mod}(h:OkM m)(hk:(ZfR m).bad=false):bytes (ZfR m).b/\Zu9 (ZfR m).b= .ok (m,((ZfR m).b.length:Int)):=by
 obtain⟨B,K,ha,hs⟩:=ZBI m h
 have hb:=ha.b (Zy ((m.funcs.length:Int)==(m.codes.length:Int)) ⟨Zcr,false⟩)
 have hd:=ha.bad (Zy ((m.funcs.length:Int)==(m.codes.length:Int)) ⟨Zcr,false⟩)
 have hb:(ZfR m).b=Zcr++B:=hb
 have hd:(ZfR m).bad=((false|| !((m.funcs.length:Int)==(m.codes.length:Int)))|| !K):=hd
 rw[hk]at hd
 have hby:=ha.by_
 have hK:K=true:=by cases K with|true=>rfl|false=>rw[Bool.not_false,Bool.or_true]at hd;exact Bool.noConfusion hd
 have hlen:m.funcs.length=m.codes.length:=by
  rw[hK,Bool.not_true,Bool.or_false,Bool.false_or]at hd
  cases e:((m.funcs.length:Int)==(m.codes.length:Int))with
  |true=>rw[beq_iff_eq]at e;omega
  |false=>rw[e]at hd;exact Bool.noConfusion hd
 have hh:bytes Zcr:=by
  intro x hx
  simp only[Zcr,Yav,List.not_mem_nil,or_false]at hx
  unfold byte
  omega
 have hbb:bytes (Zcr++B):=Zba hh hby
 rw[hb]
 refine⟨hbb,?_⟩
 have hat:AtB (Zcr++B) 0 (Zcr++B):=⟨Nat.zero_le _,[],by rw[List.append_nil];rfl⟩
 obtain⟨h1,h2⟩:=hat.app
 unfold Zu9
 have e1:=Zwe hbb Zcr 0 h1
 have e1:Zih (Zcr++B) [0,97,115,109,1,0,0,0] 0= .ok ((),((0+Zcr.length:Nat):Int)):=e1
 rw[e1,Zk]
 obtain⟨n',last',g1,g2,g3⟩:=hs hK (Zcr++B) (Zcr++B).length 0 (0+Zcr.length) hbb h2 (by omega) (by omega)
 rw[g3]
 have e2:0+Zcr.length+B.length=(Zcr++B).length:=by rw[Yal,Nat.zero_add]
 rw[e2]
 have e3:Zf0 (Zcr++B) n' last' m (((Zcr++B).length:Nat):Int)= .ok (m,(((Zcr++B).length:Nat):Int)):=by
  cases n' with
  |zero=>rfl
  |succ n=>rw[Zf0,if_neg (by omega)]
 rw[e3,Zk]
 unfold ZaT
 rw[if_pos (by exact hlen.symm)]
theorem ZlK {m:Mod}(h:OkM m)(he:(ZdI m).2=0):bytes (ZdI m).1/\(ZdI m).1.length<=16384/\Zkx (ZdI m).1=(m,0):=by
 unfold ZdI at he ⊢
 by_cases c:(ZfR m).bad=true
 ·rw[if_pos c]at he;exact absurd he (by decide)
 ·rw[if_neg c]at he ⊢
  by_cases c2:(ZfR m).b.length>16384
  ·rw[if_pos c2]at he;exact absurd he (by decide)
  ·rw[if_neg c2]
   obtain⟨h1,h2⟩:=ZBJ h (by simpa using c)
   refine⟨h1,by simp only;omega,?_⟩
   unfold Zkx
   simp only
   rw[if_neg c2,h2]
theorem ZBK {m:Mod}(he:(ZdI m).2≠0):(ZdI m).1=[]/\((ZdI m).2=1\/(ZdI m).2=4):=by
 unfold ZdI at he ⊢
 by_cases c:(ZfR m).bad=true
 ·rw[if_pos c];exact⟨rfl,.inl rfl⟩
 ·rw[if_neg c]at he ⊢
  by_cases c2:(ZfR m).b.length>16384
  ·rw[if_pos c2];exact⟨rfl,.inr rfl⟩
  ·rw[if_neg c2]at he;exact absurd rfl he
structure LnM (m:Mod):Prop where
 sz:szM m+500<=1000000000
 ln:m.types.length<=1000000000/\m.imports.length<=1000000000/\m.funcs.length<=1000000000/\m.tables.length<=1000000000/\m.mems.length<=1000000000/\m.globals.length<=1000000000/\m.exports.length<=1000000000/\m.elems.length<=1000000000/\m.codes.length<=1000000000/\m.datas.length<=1000000000
theorem Zab {α β:Type}{x:Res α}{f:α->Int->Res β}{b:β}{t:Int}(h:Go.Proofs.YtimhmpdfioihlaaGreatDoor.bnd x f= .ok (b,t)): ∃a s,x= .ok (a,s)/\f a s= .ok (b,t):=by
 cases x with
 |ok z=>exact⟨z.1,z.2,rfl,h⟩
 |error z=>cases h
theorem Zc5 {α:Type}{c:Prop}[Decidable c]{x:Int->Res α}{t:Int}{a:α}{s:Int}(h:ZaT c x t= .ok (a,s)):c/\x t= .ok (a,s):=by
 unfold ZaT at h
 split at h
 ·rename_i hc;exact⟨hc,h⟩
 ·cases h
theorem Zgb {xs:List Int}{p x t:Int}(hb:bytes xs)(h0:0<=p)(h:Zcj xs p= .ok (x,t)):p<xs.length/\t=p+1/\0<=x/\x<=255:=by
 unfold Zcj at h
 split at h
 ·cases h
 ·rename_i hc
  injection h with h
  injection h with h1 h2
  have hk:p.toNat<xs.length:=by omega
  have hx:=hb _ (Zbw hk)
  rw[h1]at hx
  exact⟨by omega,h2.symm,hx.1,hx.2⟩
theorem Zh8 {xs:List Int}{p n t:Int}(hb:bytes xs)(h0:0<=p/\p<=xs.length)(h:nmT xs p= .ok (n,t)):Zaf n=true/\((uB n).length:Int)<=t-p/\p<t/\t<=xs.length:=by
 unfold nmT at h
 split at h
 ·cases h
 ·rename_i hc
  have hc:(Zbg xs p 32).2.2=0:=Classical.not_not.1 hc
  injection h with h
  injection h with h1 h2
  have hu:Zav xs p=(n,t):=by
   unfold Zav
   rw[if_neg (fun h=>h hc),h1,h2]
  have h00:=ZcK hb h0 hc
  rw[h1,h2]at h00
  have hi:=ZjA hb h0 (by rw[hu];show 0<=t;omega)
  rw[hu]at hi
  have hn:=ZbY hi.1
  refine⟨?_,hi.2.1,hi.2.2.1,hi.2.2.2⟩
  unfold Zaf
  simp only[Yao,Yaz]
  exact hn
theorem Zpa {xs:List Int}{most p n t:Int}(hb:bytes xs)(h0:0<=p/\p<=xs.length)(h:Zh5 xs most p= .ok (n,t)):n<=most/\Zaf n=true/\((uB n).length:Int)<=t-p/\p<t/\t<=xs.length:=by
 unfold Zh5 at h
 obtain⟨a,s,h1,h2⟩:=Zab h
 split at h2
 ·cases h2
 ·cases h2
  exact⟨by omega,Zh8 hb h0 h1⟩
def Iv (f:Ow->Ow)(xs:List Int)(p t:Int):Prop:=(∃B,Ap f B true/\(B.length:Int)<=t-p)/\t<=xs.length
theorem Iv.comp {f g:Ow->Ow}{xs:List Int}{p q t:Int}(h1:Iv f xs p q)(h2:Iv g xs q t):Iv (fun o=>g (f o)) xs p t:=by
 obtain⟨⟨B,a,l⟩,_⟩:=h1
 obtain⟨⟨C,c,k⟩,e⟩:=h2
 exact⟨⟨B++C,a.comp c,by rw[Yal];omega⟩,e⟩
theorem Iv.pos {f:Ow->Ow}{xs:List Int}{p t:Int}(h:Iv f xs p t):p<=t/\t<=xs.length:=by
 obtain⟨⟨B,a,l⟩,e⟩:=h
 exact⟨by omega,e⟩
theorem Iv.must {c:Bool}{xs:List Int}{p:Int}(hc:c=true)(hp:p<=xs.length):Iv (Zy c) xs p p:=⟨⟨[],hc▸ZcG c,by simp⟩,hp⟩
theorem Iv.byte {x:Int}{xs:List Int}{p:Int}(hx:0<=x/\x<=255)(hp:p<xs.length):Iv (Z6 [x]) xs p (p+1):=⟨⟨[x],ZaW (ZaF hx),by simp;omega⟩,by omega⟩
theorem Iv.ap {f:Ow->Ow}{B:List Int}{K:Bool}{xs:List Int}{p t:Int}(h:Ap f B K)(hk:K=true)(hl:(B.length:Int)<=t-p)(ht:t<=xs.length):Iv f xs p t:=⟨⟨B,hk▸h,hl⟩,ht⟩
theorem Zy7 {xs:List Int}{p n t:Int}(hb:bytes xs)(h0:0<=p/\p<=xs.length)(h:nmT xs p= .ok (n,t)):Iv (Z9 [n]) xs p t:=by
 obtain⟨h1,h2,h3,h4⟩:=Zh8 hb h0 h
 exact Iv.ap (ZaX n) h1 h2 h4
theorem ZlL {xs:List Int}{p s t:Int}(hb:bytes xs)(h0:0<=p/\p<=xs.length)(h:Zg0 xs p= .ok (s,t)):Zaf (t-s)=true/\((uB (t-s)).length:Int)<=s-p/\p<s/\s<=t/\t<=xs.length:=by
 unfold Zg0 at h
 obtain⟨a,q,h1,h2⟩:=Zab h
 obtain⟨g1,g2,g3,g4⟩:=Zh8 hb h0 h1
 unfold ZoN at h2
 split at h2
 ·cases h2
 ·cases h2
  have hn:=ZbU g1
  have e:s+a-s=a:=by omega
  rw[e]
  exact⟨g1,g2,g3,by omega,by omega⟩
theorem ZkB {xs l:List Int}{p t:Int}(hb:bytes xs)(h0:0<=p/\p<=xs.length)(h:Zdp xs p= .ok (l,t)):bytes l/\Zaf (l.length:Int)=true/\((uB (l.length:Int)).length:Int)+l.length<=t-p/\t<=xs.length:=by
 unfold Zdp at h
 obtain⟨s,q,h1,h2⟩:=Zab h
 obtain⟨g1,g2,g3,g4,g5⟩:=ZlL hb h0 h1
 cases h2
 have e:(((xs.drop s.toNat).take (t-s).toNat).length:Int)=t-s:=by
  rw[Yar,Yaw];omega
 rw[e]
 exact⟨fun x hx=>hb x (List.mem_of_mem_drop (List.mem_of_mem_take hx)),g1,by omega,g5⟩
theorem Zwf {l:List Int}(h:bytes l):sI (toS l)=l:=by
 induction l with
 |nil=>rfl
 |cons x l ih=>
  have hx:=h x (List.mem_cons_self ..)
  have:=ih (fun y hy=>h y (Yaq _ hy))
  unfold byte at hx
  have e:(UInt8.ofNat x.toNat).toNat=x.toNat:=by
    rw[UInt8.toNat_ofNat'];exact Nat.mod_eq_of_lt (by omega)
  show(((UInt8.ofNat x.toNat).toNat:Nat):Int)::sI (toS l)=x::l
  rw[e,this,Int.toNat_of_nonneg hx.1]
theorem Zpb {xs:List Int}{s:List UInt8}{p t:Int}(hb:bytes xs)(h0:0<=p/\p<=xs.length)(h:Ze3 xs p= .ok (s,t)):Iv (Zgu s) xs p t/\s.length<=xs.length:=by
 unfold Ze3 at h
 obtain⟨l,q,h1,h2⟩:=Zab h
 obtain⟨g1,g2,g3,g4⟩:=ZkB hb h0 h1
 split at h2
 ·rename_i hv
  cases h2
  have hl:(toS l).length=l.length:=by rw[<- Zns,Zwf g1]
  refine⟨Iv.ap (ZlJ (toS l)) ?_ ?_ g4,by omega⟩
  ·rw[Zwf g1,hl,hv,g2];rfl
  ·rw[Yal,Zwf g1,hl];omega
 ·cases h2
theorem Zq6 {xs:List Int}{p k t:Int}(hb:bytes xs)(h0:0<=p)(h:ZcR xs p= .ok (k,t)):Iv (Zj0 k) xs p t:=by
 unfold ZcR at h
 obtain⟨c,q,h1,h2⟩:=Zab h
 obtain⟨g1,g2,g3⟩:=Zgb hb h0 h1
 split at h2
 ·rename_i hc
  cases h2
  refine Iv.ap (Zo7 k) ?_ (by simp;omega) (by omega)
  unfold ZbT
  rcases hc with rfl|rfl|rfl<;>rfl
 ·split at h2<;>cases h2
theorem ZlM {xs:List Int}{c:List Ins}{p t:Int}(hb:bytes xs)(hlen:xs.length<=16384)(h:Zea xs p= .ok (c,t)):okC c/\Iv (ZeQ c) xs p t/\(Zw c).1.length<=xs.length:=by
 unfold Zea at h
 split at h
 ·cases h
 ·rename_i hc
  have hc:(ZbG xs p).2.2=0:=Classical.not_not.1 hc
  injection h with h
  injection h with h1 h2
  obtain⟨h0,hg⟩:=Zvp hb (by omega) (p:=p) (code:=c) (to:=t) (Prod.ext h1 (Prod.ext h2 hc))
  have hi: ∀i∈c,ZbM i:=fun i hj=>(hg.ok i hj).1
  have hw:Zw c=(ZeJ c,0):=by
   unfold Zw
   rw[if_pos ⟨hg.closed,Yat.2 fun i hj=>(hg.ok i hj).2⟩]
  have hl:=Zlu c (fun i hj=>(hg.ok i hj).2)
  have h3:=hg.len
  have h4:=hg.le
  refine⟨⟨hi,by omega,by omega⟩,Iv.ap (Zgw hi) ?_ ?_ h4,?_⟩
  ·rw[hw];rfl
  ·rw[hw];exact h3
  ·rw[hw];show(ZeJ c).length<=_;omega
theorem ZnJ: ∀l:List Int,Z9 l=ZbA ZoX l
 |[]=>rfl
 |x::l=>by funext o;rw[Z9,ZbA,ZnJ l];rfl
theorem ZkC: ∀l:List Int,ZbI l=ZbA Zj0 l
 |[]=>rfl
 |x::l=>by funext o;rw[ZbI,ZbA,ZkC l]
theorem Zwg {α:Type}{T:Int->Res α}{f:α->Ow->Ow}{P:α->Prop}{xs:List Int}(hT: ∀(p:Int) (x:α) (t:Int),0<=p/\p<=xs.length->T p= .ok (x,t)->Iv (f x) xs p t/\P x) :
 ∀(n:Nat) (l:List α) (p t:Int),0<=p/\p<=xs.length->Zda T n p= .ok (l,t)->l.length=n/\(∀x∈l,P x)/\Iv (ZbA f l) xs p t
 |0,l,p,t,h0,h=>by
  rw[Zda]at h
  cases h
  exact⟨rfl,(fun x hx=>by cases hx),⟨⟨[],Zsa,by simp⟩,h0.2⟩⟩
 |n+1,l,p,t,h0,h=>by
  rw[Zda]at h
  obtain⟨a,s,h1,h2⟩:=Zab h
  obtain⟨r,q,h3,h4⟩:=Zab h2
  cases h4
  obtain⟨g1,g2⟩:=hT p a s h0 h1
  obtain⟨k1,k2,k3⟩:=Zwg hT n r s t ⟨by have:=g1.pos;omega,g1.pos.2⟩ h3
  exact⟨by rw[Yag,k1],fun x hx=>(Yav.1 hx).elim (fun e=>e▸g2) (k2 x),g1.comp k3⟩
theorem ZbZ {α:Type}{T:Int->Res α}{f:α->Ow->Ow}{P:α->Prop}{xs:List Int}{most:Int}(hb:bytes xs)(hT: ∀(p:Int) (x:α) (t:Int),0<=p/\p<=xs.length->T p= .ok (x,t)->Iv (f x) xs p t/\P x){l:List α}{p t:Int}(h0:0<=p/\p<=xs.length)(h:Z3 xs most T p= .ok (l,t)) :
 (l.length:Int)<=most/\(∀x∈l,P x)/\Iv (fun o=>ZbA f l (Z9 [(l.length:Int)] o)) xs p t:=by
 unfold Z3 at h
 obtain⟨n,s,h1,h2⟩:=Zab h
 obtain⟨g1,g2,g3,g4,g5⟩:=Zpa hb h0 h1
 have hn:=ZbU g2
 obtain⟨k1,k2,k3⟩:=Zwg (f:=f) (P:=P) hT _ _ _ _ ⟨by omega,g5⟩ h2
 have e:(l.length:Int)=n:=by omega
 rw[e]
 exact⟨g1,k2,(Iv.ap (ZaX n) g2 g3 g5).comp k3⟩
theorem ZnK {xs:List Int}{most:Int}{l:List Int}{p t:Int}(hb:bytes xs)(h0:0<=p/\p<=xs.length)(h:Z3 xs most (ZcR xs) p= .ok (l,t)):(l.length:Int)<=most/\Iv (fun o=>ZbI l (Z9 [(l.length:Int)] o)) xs p t:=by
 have:=ZbZ (f:=Zj0) (P:=fun _=>True) hb (fun p x t h0 h=>⟨Zq6 hb h0.1 h,trivial⟩) h0 h
 rw[ZkC]
 exact⟨this.1,this.2.2⟩
theorem ZBL {xs:List Int}{x:Zig}{p t:Int}(hb:bytes xs)(h0:0<=p/\p<=xs.length)(h:Zqw xs p= .ok (x,t)):Iv (ZqN x) xs p t/\Zgx x<=100000:=by
 unfold Zqw at h
 obtain⟨c,s,h1,h2⟩:=Zab h
 obtain⟨hc,h2⟩:=Zc5 h2
 obtain⟨i,s2,h3,h4⟩:=Zab h2
 obtain⟨o,s3,h5,h6⟩:=Zab h4
 cases h6
 subst hc
 obtain⟨g1,g2,g3⟩:=Zgb hb h0.1 h1
 obtain⟨k1,k2⟩:=ZnK hb ⟨by omega,by omega⟩ h3
 obtain⟨j1,j2⟩:=ZnK hb ⟨by have:=k2.pos;omega,k2.pos.2⟩ h5
 subst g2
 refine⟨(((Iv.must (c:=decide ((i.length:Int)<=32)&&decide ((o.length:Int)<=32)) (by rw[Yae k1,Yae j1];rfl) h0.2).comp (Iv.byte (x:=96) (by omega) g1)).comp k2).comp j2,?_⟩
 unfold Zgx;simp only;omega
theorem ZBM {xs:List Int}{x:Zjy}{p t:Int}(hb:bytes xs)(hl:xs.length<=16384)(h0:0<=p/\p<=xs.length)(h:Zqx xs p= .ok (x,t)):Iv (ZqP x) xs p t/\ZhT x<=100000:=by
 unfold Zqx at h
 obtain⟨m,s,h1,h2⟩:=Zab h
 obtain⟨n,s2,h3,h4⟩:=Zab h2
 obtain⟨c,s3,h5,h6⟩:=Zab h4
 obtain⟨hc,h6⟩:=Zc5 h6
 obtain⟨i,s4,h7,h8⟩:=Zab h6
 cases h8
 subst hc
 obtain⟨i1,n1⟩:=Zpb hb h0 h1
 obtain⟨i2,n2⟩:=Zpb hb ⟨by have:=i1.pos;omega,i1.pos.2⟩ h3
 have q1:=i1.pos
 have q2:=i2.pos
 obtain⟨g1,g2,g3⟩:=Zgb hb (by omega) h5
 subst g2
 have i3:=Zy7 hb ⟨by omega,by omega⟩ h7
 refine⟨((i1.comp i2).comp (Iv.byte (x:=0) (by omega) g1)).comp i3,?_⟩
 unfold ZhT;simp only;omega
theorem Zwh {xs:List Int}{most:Int}{x:Int×Int}{p t:Int}(hb:bytes xs)(h0:0<=p/\p<=xs.length)(h:Zjx xs most p= .ok (x,t)):Iv (ZoW most x) xs p t:=by
 unfold Zjx at h
 obtain⟨c,s,h1,h2⟩:=Zab h
 obtain⟨g1,g2,g3⟩:=Zgb hb h0.1 h1
 subst g2
 split at h2
 ·cases h2
 ·obtain⟨n,s2,h3,h4⟩:=Zab h2
  obtain⟨k1,k2,k3,k4,k5⟩:=Zpa hb ⟨by omega,by omega⟩ h3
  split at h4
  ·obtain⟨k,s3,h5,h6⟩:=Zab h4
   cases h6
   obtain⟨j1,j2,j3,j4⟩:=Zh8 hb ⟨by omega,k5⟩ h5
   have:=ZbU j1
   have e:ZoW most (n,k)=fun o=>Z9 [n,k] (Z6 [1] (Zy (decide (n<=most)) o)):=by
    funext o;unfold ZoW;rw[if_neg (by show ¬k= -1;omega)]
   rw[e]
   refine((Iv.must (Yae k1) h0.2).comp (Iv.byte (x:=1) (by omega) g1)).comp (Iv.ap (ZlI [n,k]) ?_ ?_ j4)
   ·simp only[List.all_cons,List.all_nil,k2,j1];rfl
   ·simp only[List.flatMap_cons,List.flatMap_nil,List.append_nil,Yal];omega
  ·cases h4
   have e:ZoW most (n, -1)=fun o=>Z9 [n] (Z6 [0] (Zy (decide (n<=most)) o)):=by
    funext o;unfold ZoW;rw[if_pos rfl]
   rw[e]
   exact((Iv.must (Yae k1) h0.2).comp (Iv.byte (x:=0) (by omega) g1)).comp (Iv.ap (ZaX n) k2 k3 k5)
theorem ZBN {xs:List Int}{x:Int×Int}{p t:Int}(hb:bytes xs)(h0:0<=p/\p<=xs.length)(h:ZoO xs p= .ok (x,t)):Iv (ZqW x) xs p t:=by
 unfold ZoO at h
 obtain⟨c,s,h1,h2⟩:=Zab h
 obtain⟨hc,h2⟩:=Zc5 h2
 obtain⟨g1,g2,g3⟩:=Zgb hb h0.1 h1
 subst g2
 exact(Iv.byte (x:=112) (by omega) g1).comp (Zwh hb ⟨by omega,by omega⟩ h2)
theorem Zy8 {xs:List Int}{x:ZdV}{p t:Int}(hb:bytes xs)(hl:xs.length<=16384)(h0:0<=p/\p<=xs.length)(h:Zg1 xs p= .ok (x,t)):Iv (Zhf x) xs p t/\okC x.c/\Zf9 x<=100000:=by
 unfold Zg1 at h
 obtain⟨k,s,h1,h2⟩:=Zab h
 obtain⟨c,s2,h3,h4⟩:=Zab h2
 obtain⟨hc,h4⟩:=Zc5 h4
 obtain⟨e,s3,h5,h6⟩:=Zab h4
 cases h6
 have i1:=Zq6 hb h0.1 h1
 have q1:=i1.pos
 obtain⟨g1,g2,g3⟩:=Zgb hb (by omega) h3
 obtain⟨i4,i5,i6⟩:=ZlM hb hl h5
 subst g2
 refine⟨(i1.comp (g:=Z6 [if(c==1)=true then 1 else 0]) ?_).comp i5,i4,?_⟩
 ·refine Iv.byte ?_ g1
  split<;>omega
 ·unfold Zf9;simp only;omega
theorem ZBO {xs:List Int}{x:Zjz}{p t:Int}(hb:bytes xs)(hl:xs.length<=16384)(h0:0<=p/\p<=xs.length)(h:Zqy xs p= .ok (x,t)):Iv (ZqL x) xs p t/\ZhU x<=100000:=by
 unfold Zqy at h
 obtain⟨n,s,h1,h2⟩:=Zab h
 obtain⟨c,s2,h3,h4⟩:=Zab h2
 obtain⟨hc,h4⟩:=Zc5 h4
 obtain⟨i,s3,h5,h6⟩:=Zab h4
 cases h6
 obtain⟨i1,n1⟩:=Zpb hb h0 h1
 have q1:=i1.pos
 obtain⟨g1,g2,g3⟩:=Zgb hb (by omega) h3
 subst g2
 have i3:=Zy7 hb ⟨by omega,by omega⟩ h5
 refine⟨(((Iv.must (c:=decide (c>=0)&&decide (c<=3)) (by rw[Yae g3.1,Yae hc];rfl) h0.2).comp i1).comp (Iv.byte (Zv9 c) g1)).comp i3,?_⟩
 unfold ZhU;simp only;omega
theorem Zy9 {xs:List Int}{x:ZcS}{p t:Int}(hb:bytes xs)(hl:xs.length<=16384)(h0:0<=p/\p<=xs.length)(h:Zg2 xs p= .ok (x,t)):Iv (Zhe x) xs p t/\okC x.c/\Zdw x<=100000:=by
 unfold Zg2 at h
 obtain⟨c,s,h1,h2⟩:=Zab h
 obtain⟨hc,h2⟩:=Zc5 h2
 obtain⟨e,s2,h3,h4⟩:=Zab h2
 obtain⟨f,s3,h5,h6⟩:=Zab h4
 cases h6
 obtain⟨g1,g2,g3,g4⟩:=Zh8 hb h0 h1
 obtain⟨i4,i5,i6⟩:=ZlM hb hl h3
 have q5:=i5.pos
 have:=ZbZ (f:=ZoX) (P:=fun _=>True) hb (fun p x t h0 h=>⟨Zy7 hb h0 h,trivial⟩) ⟨by omega,q5.2⟩ h5
 rw[<- ZnJ]at this
 have b0:Iv (Z6 [0]) xs p s:=Iv.ap (ZaW (ZaF (by omega))) rfl (by simp;omega) g4
 have hh:=(((Iv.must (c:=decide ((f.length:Int)<=1024)) (Yae this.1) h0.2).comp b0).comp i5).comp this.2.2
 have:=this.1
 exact⟨hh,i4,by unfold Zdw;simp only;omega⟩
theorem Zza {xs:List Int}{x:ZbS}{p t:Int}(hb:bytes xs)(hl:xs.length<=16384)(h0:0<=p/\p<=xs.length)(h:Zg3 xs p= .ok (x,t)):Iv (Zhd x) xs p t/\(okC x.c/\bytes x.b)/\ZdJ x<=100000:=by
 unfold Zg3 at h
 obtain⟨c,s,h1,h2⟩:=Zab h
 obtain⟨hc,h2⟩:=Zc5 h2
 obtain⟨e,s2,h3,h4⟩:=Zab h2
 obtain⟨b,s3,h5,h6⟩:=Zab h4
 cases h6
 obtain⟨g1,g2,g3,g4⟩:=Zh8 hb h0 h1
 obtain⟨i4,i5,i6⟩:=ZlM hb hl h3
 have q5:=i5.pos
 obtain⟨k1,k2,k3,k4⟩:=ZkB hb ⟨by omega,q5.2⟩ h5
 refine⟨((Iv.comp (f:=Z6 [0]) (q:=s) ?_ i5).comp (g:=fun o=>Z6 b (Z9 [(b.length:Int)] o)) (Iv.ap ((ZaX (b.length:Int)).comp (ZaW k1)) ?_ ?_ k4)),⟨i4,k1⟩,?_⟩
 ·exact Iv.ap (ZaW (ZaF (by omega))) rfl (by simp;omega) g4
 ·rw[k2];rfl
 ·rw[Yal];omega
 ·unfold ZdJ;simp only;omega
theorem ZfS {α:Type}{sz:α->Nat}{x:α}: ∀{l:List α},x∈l->sz x<=Zaa sz l
 |y::l,h=>by
  rw[Zaa]
  rcases Yav.1 h with rfl|h
  ·omega
  ·have:=ZfS (sz:=sz) h;omega
theorem Zq7 {c:List Ins}(h:okC c):SmC c:=⟨by have:=h.2.1;omega,fun i hi=>by have:=(h.1 i hi).n;omega⟩
theorem ZBP {m:Mod}(hm:OkM m)(hl:LnM m):SmM m:=by
 obtain⟨hz,n1,n2,n3,n4,n5,n6,n7,n9,n10,n11⟩:=hl
 unfold szM at hz
 refine⟨by omega,fun x hx=> ?_,by omega,by omega,by omega,by omega,by omega,fun x hx=>Zq7 (hm.g x hx),by omega,by omega,fun x hx=>⟨Zq7 (hm.e x hx),?_⟩,by omega,fun x hx=>⟨?_,Zq7 (hm.c x hx)⟩,by omega,fun x hx=>⟨Zq7 (hm.d x hx).1,(hm.d x hx).2⟩⟩
 ·have h:=ZfS (sz:=Zgx) hx
  unfold Zgx at h hz
  exact⟨by omega,by omega⟩
 ·have h:=ZfS (sz:=Zdw) hx
  unfold Zdw at h hz
  omega
 ·have h:=ZfS (sz:=Zdx) hx
  unfold Zdx at h hz
  omega
@[reducible] def Zfv:Sh:= .pair (.int .i64) (.pair (.int .i64) (.pair (.int .i64) (.pair (.int .u64) (.pair (.int .u64) (.sl (.int .i64))))))
def ZGM (x:Zfv.T):Ins:=⟨x.1,x.2.1,x.2.2.1,x.2.2.2.1,x.2.2.2.2.1,x.2.2.2.2.2⟩
def Zbb (x:List Zfv.T):List Ins:=List.map ZGM x
theorem Zwi (l:List Zfv.T):List.flatMap (Sh.enc Zfv) l=Zap (Zbb l):=by
 induction l with
 |nil=>rfl
 |cons s l ih=>
  rw[List.flatMap_cons,ih]
  obtain⟨o,a,b,lo,hi,ll⟩:=s
  show([V.int .i64 o]++([V.int .i64 a]++([V.int .i64 b]++([V.int .u64 lo]++([V.int .u64 hi]++[V.view (List.length (α:=Int) ll) 1 (List.flatMap (Sh.enc (.int .i64)) ll)])))))++Zap (Zbb l)=_
  rw[ZmQ];rfl
theorem ZlN (x:List Zfv.T):Sh.val (.sl Zfv) x= .view (Zbb x).length 6 (Zap (Zbb x)):=by
 show V.view (List.length (α:=Zfv.T) x) 6 (List.flatMap (Sh.enc Zfv) x)=_
 rw[Zwi]
 unfold Zbb;rw[List.length_map]
theorem Zwj (x:List Zfv.T):szC (Zbb x)+1<=Sh.bulk (.sl Zfv) x:=by
 show szC (Zbb x)+1<=(List.map (Sh.bulk Zfv) x).sum+1
 refine Nat.succ_le_succ ?_
 induction x with
 |nil=>exact Nat.le_refl _
 |cons s l ih=>
  obtain⟨o,a,b,lo,hi,ll⟩:=s
  have h1:=ZaM (k:= .i64) ll
  have h2:Sh.bulk Zfv (o,a,b,lo,hi,ll)=1+(1+(1+(1+(1+Sh.bulk (.sl (.int .i64)) ll)))):=rfl
  unfold szC Zbb at *
  simp only[List.map_cons,List.sum_cons]
  rw[h2]
  have h3:(ZGM (o,a,b,lo,hi,ll)).l.length=List.length (α:=Int) ll:=rfl
  rw[h3]
  have h4:List.length (α:=Int) ll+1<=Sh.bulk (.sl (.int .i64)) ll:=h1
  omega
theorem Zq8: ∀{code:List Ins} {i:Ins},i∈code->i.l.length<=szC code
 |j::t,i,h=>by
  unfold szC
  rw[List.map_cons,List.sum_cons]
  rcases Yav.1 h with rfl|h
  ·omega
  ·have:=Zq8 h
   unfold szC at this
   omega
theorem ZGf {x:Int}(h:x<9223372036854775808):x<=9223372036854775807:=by omega
theorem Zpc (x:List Zfv.T)(hg:(Sh.sl Zfv).good x)(hb:Sh.bulk (.sl Zfv) x<=1048576):(∀i∈Zbb x,ZbM i)/\szC (Zbb x)<=1048576:=by
 have hz:=Zwj x
 refine⟨fun i hi=> ?_,by omega⟩
 have hm:=Zq8 hi
 unfold Zbb at hi
 obtain⟨y,hy,rfl⟩:=Ya3.1 hi
 have hgy:=hg y hy
 obtain⟨o,a,b,lo,hh,ll⟩:=y
 obtain⟨c1,c2,c3,c4,c5,c6⟩:=hgy
 have d1:=Zin c1
 have d2:=Zin c2
 have d3:=Zin c3
 have d4:=ZpY c4
 have d5:=ZpY c5
 refine⟨⟨d1.1,ZGf d1.2⟩,⟨d2.1,ZGf d2.2⟩,⟨d3.1,ZGf d3.2⟩,⟨d4.1,d4.2⟩,⟨d5.1,d5.2⟩,fun x hx=> ?_,by omega⟩
 have:=Zin (c6 x hx)
 exact⟨this.1,by omega⟩
theorem ZjJ {α:Type}{bk:α->Nat}{x:α}: ∀{l:List α},x∈l->bk x<=(l.map bk).sum
 |y::l,h=>by
  rw[List.map_cons,List.sum_cons]
  rcases Yav.1 h with rfl|h
  ·omega
  ·have:=ZjJ (bk:=bk) h;omega
theorem Zcs {α β:Type}{sz:β->Nat}{to:α->β}{bk:α->Nat}{c:Nat}: ∀{l:List α},(∀x∈l,sz (to x)<=c*bk x)->Zaa sz (l.map to)<=c*(l.map bk).sum
 |[],_=>Nat.zero_le _
 |x::l,h=>by
  have h1:=h x (List.mem_cons_self ..)
  have h2:=Zcs (l:=l) (fun y hy=>h y (Yaq _ hy))
  rw[List.map_cons,Zaa,List.map_cons,List.sum_cons,Nat.mul_add]
  omega
@[reducible] def ZjK:Sh:= .pair (.sl (.int .i64)) (.sl (.int .i64))
@[reducible] def ZlO:Sh:= .pair .str (.pair .str (.int .i64))
@[reducible] def Zf2:Sh:= .pair (.int .i64) (.int .i64)
@[reducible] def ZeX:Sh:= .pair (.int .i64) (.pair .bool (.sl Zfv))
@[reducible] def ZlP:Sh:= .pair .str (.pair (.int .i64) (.int .i64))
@[reducible] def ZeY:Sh:= .pair (.sl Zfv) (.sl (.int .i64))
@[reducible] def ZeZ:Sh:= .pair (.sl (.int .i64)) (.sl Zfv)
@[reducible] def Ze0:Sh:= .pair (.sl Zfv) (.sl (.int .u8))
@[reducible] def ZjL:Sh:= .pair (.sl ZjK) (.pair (.sl ZlO) (.pair (.sl (.int .i64)) (.pair (.sl Zf2) (.pair (.sl Zf2) (.pair (.sl ZeX) (.pair (.sl ZlP) (.pair (.int .i64) (.pair (.sl ZeY) (.pair (.sl ZeZ) (.sl Ze0))))))))))
def Zsd (x:ZjK.T):Zig:=⟨x.1,x.2⟩
def Zse (x:ZlO.T):Zjy:=⟨x.1,x.2.1,x.2.2⟩
def Zj3 (x:Zf2.T):Int×Int:=(x.1,x.2)
def ZjM (x:ZeX.T):ZdV:=⟨x.1,x.2.1,Zbb x.2.2⟩
def Zsf (x:ZlP.T):Zjz:=⟨x.1,x.2.1,x.2.2⟩
def ZjN (x:ZeY.T):ZcS:=⟨Zbb x.1,x.2⟩
def Zpd (x:ZeZ.T):Zb8:=⟨x.1,Zbb x.2⟩
def Zh9 (x:Ze0.T):ZbS:=⟨Zbb x.1,x.2⟩
def Zzb (x:ZjL.T):Mod:=⟨List.map Zsd x.1,List.map Zse x.2.1,x.2.2.1,List.map Zj3 x.2.2.2.1,List.map Zj3 x.2.2.2.2.1,List.map ZjM x.2.2.2.2.2.1,List.map Zsf x.2.2.2.2.2.2.1,x.2.2.2.2.2.2.2.1,List.map ZjN x.2.2.2.2.2.2.2.2.1,List.map Zpd x.2.2.2.2.2.2.2.2.2.1,List.map Zh9 x.2.2.2.2.2.2.2.2.2.2⟩
theorem Zwk {s:Sh}{β:Type}{to:s.T->β}{C:β->List V}(h: ∀x,s.enc x=C (to x)): ∀l:List s.T,List.flatMap s.enc l=List.flatMap C (List.map to l)
 |[]=>rfl
 |x::l=>by rw[List.flatMap_cons,List.map_cons,List.flatMap_cons,h,Zwk h l]
theorem ZiG (x:List Zfv.T):Sh.enc (.sl Zfv) x=[.view (Zbb x).length 6 (Zap (Zbb x))]:=congrArg (fun v=>[v]) (ZlN x)
theorem ZfT {k:IntKind}(x:List Int):Sh.enc (.sl (.int k)) x=[.view x.length 1 (Zi k x)]:=congrArg (fun v=>[v]) (ZcI x)
theorem ZBQ (x:ZjK.T):Sh.enc ZjK x=ZhS (Zsd x):=by
 obtain⟨a,b⟩:=x
 show Sh.enc (.sl (.int .i64)) a++Sh.enc (.sl (.int .i64)) b=_
 rw[ZfT,ZfT];rfl
theorem Zzc (x:ZeX.T):Sh.enc ZeX x=Zde (ZjM x):=by
 obtain⟨a,b,c⟩:=x
 show[V.int .i64 a]++([V.bool b]++Sh.enc (.sl Zfv) c)=_
 rw[ZiG];rfl
theorem Zzd (x:ZeY.T):Sh.enc ZeY x=ZcW (ZjN x):=by
 obtain⟨a,b⟩:=x
 show Sh.enc (.sl Zfv) a++Sh.enc (.sl (.int .i64)) b=_
 rw[ZfT,ZiG];rfl
theorem ZBR (x:ZeZ.T):Sh.enc ZeZ x=ZjH (Zpd x):=by
 obtain⟨a,b⟩:=x
 show Sh.enc (.sl (.int .i64)) a++Sh.enc (.sl Zfv) b=_
 rw[ZfT,ZiG];rfl
theorem Zze (x:Ze0.T):Sh.enc Ze0 x=Zcp (Zh9 x):=by
 obtain⟨a,b⟩:=x
 show Sh.enc (.sl Zfv) a++Sh.enc (.sl (.int .u8)) b=_
 rw[ZfT,ZiG];rfl
theorem Zdf {s:Sh}{n:Nat}{β:Type}{to:s.T->β}{C:β->List V}(hn:s.size=n)(h: ∀x,s.enc x=C (to x))(l:List s.T):Sh.enc (.sl s) l=[.view (List.map to l).length n (List.flatMap C (List.map to l))]:=by
 show[V.view (List.length (α:=s.T) l) s.size (List.flatMap (α:=s.T) s.enc l)]=_
 rw[hn,Zwk h,List.length_map]
theorem ZBS (x:ZjL.T):Sh.val ZjL x= .fagg (Zb9 (Zzb x)):=by
 obtain⟨a,b,c,d,e,f,g,h,i,j,k⟩:=x
 show V.fagg (Sh.enc (.sl ZjK) a++(Sh.enc (.sl ZlO) b++(Sh.enc (.sl (.int .i64)) c++(Sh.enc (.sl Zf2) d++(Sh.enc (.sl Zf2) e++(Sh.enc (.sl ZeX) f++(Sh.enc (.sl ZlP) g++([V.int .i64 h]++(Sh.enc (.sl ZeY) i++(Sh.enc (.sl ZeZ) j++Sh.enc (.sl Ze0) k))))))))))=_
 rw[Zdf (n:=2) rfl ZBQ,Zdf (n:=3) (to:=Zse) (C:=ZjF) rfl (fun _=>rfl),ZfT,Zdf (n:=2) (to:=Zj3) (C:=Zgv) rfl (fun _=>rfl),Zdf (n:=2) (to:=Zj3) (C:=Zgv) rfl (fun _=>rfl),Zdf (n:=3) rfl Zzc,Zdf (n:=3) (to:=Zsf) (C:=ZjG) rfl (fun _=>rfl),Zdf (n:=2) rfl Zzd,Zdf (n:=2) rfl ZBR,Zdf (n:=2) rfl Zze]
 rfl
theorem ZlQ {x:List Zfv.T}(hg:(Sh.sl Zfv).good x)(hb:Sh.bulk (.sl Zfv) x<=1048576):okC (Zbb x)/\(Zw (Zbb x)).1.length<=10*Sh.bulk (.sl Zfv) x:=by
 obtain⟨h1,h2⟩:=Zpc x hg hb
 have h3:=Zvs (Zbb x)
 have h4:=ZoT h1
 have h5:=ZDv h1
 have h6:=Zwj x
 exact⟨⟨h1,by omega,by omega⟩,by omega⟩
theorem ZBT (x:ZjL.T)(hg:ZjL.good x)(hb:ZjL.bulk x<=1048576):OkM (Zzb x)/\LnM (Zzb x):=by
 obtain⟨a,b,c,d,e,f,g,h,i,j,k⟩:=x
 obtain⟨ga,gb,gc,gd,ge,gf,gg,gh,gi,gj,gk⟩:=hg
 have hb:((List.map ZjK.bulk a).sum+1)+(((List.map ZlO.bulk b).sum+1)+(((List.map (Sh.int .i64).bulk c).sum+1)+(((List.map Zf2.bulk d).sum+1)+(((List.map Zf2.bulk e).sum+1)+(((List.map ZeX.bulk f).sum+1)+(((List.map ZlP.bulk g).sum+1)+(1+(((List.map ZeY.bulk i).sum+1)+(((List.map ZeZ.bulk j).sum+1)+((List.map Ze0.bulk k).sum+1))))))))))<=1048576:=hb
 have ha1: ∀x∈a,Zgx (Zsd x)<=200*ZjK.bulk x:=fun x hx=>by
  have h1:=ZaM (k:= .i64) x.1
  have h2:=ZaM (k:= .i64) x.2
  have e1:Zgx (Zsd x)=List.length (α:=Int) x.1+List.length (α:=Int) x.2+60:=rfl
  have e2:ZjK.bulk x=Sh.bulk (.sl (.int .i64)) x.1+Sh.bulk (.sl (.int .i64)) x.2:=rfl
  omega
 have hb1: ∀x∈b,ZhT (Zse x)<=200*ZlO.bulk x:=fun x hx=>by
  have e1:ZhT (Zse x)=List.length (α:=UInt8) x.1+List.length (α:=UInt8) x.2.1+100:=rfl
  have e2:ZlO.bulk x=(List.length (α:=UInt8) x.1+1)+((List.length (α:=UInt8) x.2.1+1)+1):=rfl
  omega
 have hd1: ∀x:Zf2.T,Zhi (Zj3 x)<=200*Zf2.bulk x:=fun x=>by
  have e1:Zhi (Zj3 x)=60:=rfl
  have e2:Zf2.bulk x=1+1:=rfl
  omega
 have hc1: ∀x∈(c:List Int),Zj1 x<=200*(Sh.int .i64).bulk x:=fun x hx=>by
  have e1:Zj1 x=10:=rfl
  have e2:(Sh.int .i64).bulk x=1:=rfl
  omega
 have hf1: ∀x∈f,okC (ZjM x).c/\Zf9 (ZjM x)<=200*ZeX.bulk x:=fun x hx=>by
  have hs:=ZjJ (bk:=ZeX.bulk) hx
  have e2:ZeX.bulk x=1+(1+Sh.bulk (.sl Zfv) x.2.2):=rfl
  have ho:=ZlQ (gf x hx).2.2 (by omega)
  have e1:Zf9 (ZjM x)=(Zw (Zbb x.2.2)).1.length+100:=rfl
  exact⟨ho.1,by omega⟩
 have hg1: ∀x∈g,ZhU (Zsf x)<=200*ZlP.bulk x:=fun x hx=>by
  have e1:ZhU (Zsf x)=List.length (α:=UInt8) x.1+100:=rfl
  have e2:ZlP.bulk x=(List.length (α:=UInt8) x.1+1)+(1+1):=rfl
  omega
 have hi1: ∀x∈i,okC (ZjN x).c/\Zdw (ZjN x)<=200*ZeY.bulk x:=fun x hx=>by
  have hs:=ZjJ (bk:=ZeY.bulk) hx
  have h2:=ZaM (k:= .i64) x.2
  have e2:ZeY.bulk x=Sh.bulk (.sl Zfv) x.1+Sh.bulk (.sl (.int .i64)) x.2:=rfl
  have ho:=ZlQ (gi x hx).1 (by omega)
  have e1:Zdw (ZjN x)=(Zw (Zbb x.1)).1.length+10*List.length (α:=Int) x.2+60:=rfl
  exact⟨ho.1,by omega⟩
 have hj1: ∀x∈j,okC (Zpd x).c/\Zdx (Zpd x)<=200*ZeZ.bulk x:=fun x hx=>by
  have hs:=ZjJ (bk:=ZeZ.bulk) hx
  have h2:=ZaM (k:= .i64) x.1
  have e2:ZeZ.bulk x=Sh.bulk (.sl (.int .i64)) x.1+Sh.bulk (.sl Zfv) x.2:=rfl
  have ho:=ZlQ (gj x hx).2 (by omega)
  have e1:Zdx (Zpd x)=(Zw (Zbb x.2)).1.length+11*List.length (α:=Int) x.1+100:=rfl
  exact⟨ho.1,by omega⟩
 have hk1: ∀x∈k,(okC (Zh9 x).c/\bytes (Zh9 x).b)/\ZdJ (Zh9 x)<=200*Ze0.bulk x:=fun x hx=>by
  have hs:=ZjJ (bk:=Ze0.bulk) hx
  have h2:=ZaM (k:= .u8) x.2
  have e2:Ze0.bulk x=Sh.bulk (.sl Zfv) x.1+Sh.bulk (.sl (.int .u8)) x.2:=rfl
  have ho:=ZlQ (gk x hx).1 (by omega)
  have e1:ZdJ (Zh9 x)=(Zw (Zbb x.1)).1.length+List.length (α:=Int) x.2+60:=rfl
  exact⟨⟨ho.1,fun z hz=>Zdm ((gk x hx).2 z hz)⟩,by omega⟩
 have la:=Zcs ha1
 have lb:=Zcs hb1
 have lc:=Zcs (to:=id) hc1
 rw[List.map_id]at lc
 have ld:=Zcs (l:=d) (fun x _=>hd1 x)
 have le:=Zcs (l:=e) (fun x _=>hd1 x)
 have lf:=Zcs (fun x hx=>(hf1 x hx).2)
 have lg:=Zcs hg1
 have li:=Zcs (fun x hx=>(hi1 x hx).2)
 have lj:=Zcs (fun x hx=>(hj1 x hx).2)
 have lk:=Zcs (fun x hx=>(hk1 x hx).2)
 have na:=Zdl (s:=ZjK) a
 have nb:=Zdl (s:=ZlO) b
 have nc:=Zdl (s:= .int .i64) c
 have nd:=Zdl (s:=Zf2) d
 have ne:=Zdl (s:=Zf2) e
 have nf:=Zdl (s:=ZeX) f
 have ng:=Zdl (s:=ZlP) g
 have ni:=Zdl (s:=ZeY) i
 have nj:=Zdl (s:=ZeZ) j
 have nk:=Zdl (s:=Ze0) k
 have na:List.length (α:=ZjK.T) a+1<=(List.map ZjK.bulk a).sum+1:=na
 have nb:List.length (α:=ZlO.T) b+1<=(List.map ZlO.bulk b).sum+1:=nb
 have nc:List.length (α:=Int) c+1<=(List.map (Sh.int .i64).bulk c).sum+1:=nc
 have nd:List.length (α:=Zf2.T) d+1<=(List.map Zf2.bulk d).sum+1:=nd
 have ne:List.length (α:=Zf2.T) e+1<=(List.map Zf2.bulk e).sum+1:=ne
 have nf:List.length (α:=ZeX.T) f+1<=(List.map ZeX.bulk f).sum+1:=nf
 have ng:List.length (α:=ZlP.T) g+1<=(List.map ZlP.bulk g).sum+1:=ng
 have ni:List.length (α:=ZeY.T) i+1<=(List.map ZeY.bulk i).sum+1:=ni
 have nj:List.length (α:=ZeZ.T) j+1<=(List.map ZeZ.bulk j).sum+1:=nj
 have nk:List.length (α:=Ze0.T) k+1<=(List.map Ze0.bulk k).sum+1:=nk
 refine⟨⟨fun x hx=> ?_,fun x hx=> ?_,fun x hx=> ?_,fun x hx=> ?_⟩,⟨?_,?_⟩⟩
 ·obtain⟨y,hy,rfl⟩:=Ya3.1 hx
  exact(hf1 y hy).1
 ·obtain⟨y,hy,rfl⟩:=Ya3.1 hx
  exact(hi1 y hy).1
 ·obtain⟨y,hy,rfl⟩:=Ya3.1 hx
  exact(hj1 y hy).1
 ·obtain⟨y,hy,rfl⟩:=Ya3.1 hx
  exact(hk1 y hy).1
 ·show Zaa Zgx (List.map Zsd a)+Zaa ZhT (List.map Zse b)+Zaa Zj1 c+Zaa Zhi (List.map Zj3 d)+Zaa Zhi (List.map Zj3 e)+Zaa Zf9 (List.map ZjM f)+Zaa ZhU (List.map Zsf g)+Zaa Zdw (List.map ZjN i)+Zaa Zdx (List.map Zpd j)+Zaa ZdJ (List.map Zh9 k)+500<=1000000000
  omega
 ·show(List.map Zsd a).length<=1000000000/\(List.map Zse b).length<=1000000000/\List.length (α:=Int) c<=1000000000/\(List.map Zj3 d).length<=1000000000/\(List.map Zj3 e).length<=1000000000/\(List.map ZjM f).length<=1000000000/\(List.map Zsf g).length<=1000000000/\(List.map ZjN i).length<=1000000000/\(List.map Zpd j).length<=1000000000/\(List.map Zh9 k).length<=1000000000
  simp only[List.length_map]
  omega
end Go.Proofs.YtimhmpdfioihlaaGreatDoor
