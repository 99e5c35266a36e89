/- What is written of a module is read again: sections, the whole. -/
import Derived.Test.YtimhmpdfioihlaaGreatDoorGV6
import Derived.Test.YtimhmpdfioihlaaGreatDoorGEB2
import Derived.Test.YtimhmpdfioihlaaGreatDoorGEN6
import Derived.Test.YtimhmpdfioihlaaGreatDoorGMMv
set_option linter.unusedSimpArgs false
set_option linter.unusedVariables false
namespace Go.Proofs.YtimhmpdfioihlaaGreatDoor
set_option maxRecDepth 20000
open Go Go.Abs
def Stg (B:List Int)(lo hi:Int)(m m':Mod):Prop:= ∀(xs:List Int) (n:Nat) (last:Int) (p:Nat),bytes xs->AtB xs p B->last<lo->xs.length<=n+p->
 ∃(n':Nat) (last':Int),last'<=hi/\xs.length<=n'+(p+B.length)/\Zf0 xs n last m p=Zf0 xs n' last' m' ((p+B.length:Nat):Int)
theorem Stg.comp {B C:List Int}{lo i k j:Int}{m m' m'':Mod}(h1:Stg B lo i m m')(h2:Stg C k j m' m'')(hij:i<k):Stg (B++C) lo j m m'':=by
 intro xs n last p hb ha hl hn
 obtain⟨a1,a2⟩:=ha.app
 obtain⟨n1,l1,g1,g2,g3⟩:=h1 xs n last p hb a1 hl hn
 obtain⟨n2,l2,k1,k2,k3⟩:=h2 xs n1 l1 _ hb a2 (by omega) g2
 rw[Yal,<- Nat.add_assoc]
 exact⟨n2,l2,k1,k2,g3.trans k3⟩
theorem Stg.nil (id:Int)(m:Mod):Stg [] id id m m:=fun _ n last p _ _ hl hn=>⟨n,last,Int.le_of_lt hl,hn,rfl⟩
theorem Zwc {P:List Int}{id:Int}{m m':Mod}(hid:1<=id/\id<=11)(hn:Zaf (P.length:Int)=true)(h:RdB (fun xs p=>Znj xs id m p) P m'):Stg ([id]++(uB (P.length:Int)++P)) id id m m':=by
 intro xs n last p hb ha hl hle
 have hlen:=ha.len
 obtain⟨a1,a2⟩:=ha.app
 have hpart:=Zo4 hn hb a2
 have a3:=a2.app.2
 rw[List.length_singleton]at a2 a3 hpart
 rw[Yal,Yal,List.length_singleton]at hlen ⊢
 obtain⟨n,rfl⟩: ∃k,n=k+1:=⟨n-1,by omega⟩
 refine⟨n,id,Int.le_refl _,by omega,?_⟩
 rw[Zf0,if_pos (by omega)]
 have hat:=a3.take (t:=p+1+(uB (P.length:Int)).length+P.length) (Nat.le_refl _)
 have hlen2:(xs.take (p+1+(uB (P.length:Int)).length+P.length)).length=p+1+(uB (P.length:Int)).length+P.length:=by
  rw[Yar];omega
 have hb2:=ZiF hb (p+1+(uB (P.length:Int)).length+P.length)
 have hs:Zz6 xs last m p= .ok ((id,m'),((p+1+(uB (P.length:Int)).length+P.length:Nat):Int)):=by
  unfold Zz6
  rw[ZdX id xs p hb a1,Zk]
  rw[List.length_singleton,hpart,Zk,if_neg (by omega)]
  unfold inT
  rw[Yap]
  generalize xs.take (p+1+(uB (P.length:Int)).length+P.length)=ys at hat hlen2 hb2
  have hr:=h ys _ hb2 hat
  simp only at hr
  have e5:ZaT (id>last/\id<=11) (fun p=>bnd (Znj ys id m p) fun m t=>Zll ys (id,m) t) ((p+1+(uB (P.length:Int)).length:Nat):Int)= .ok ((id,m'),((p+1+(uB (P.length:Int)).length+P.length:Nat):Int)):=by
   unfold ZaT
   rw[if_pos (show id>last/\id<=11 by omega)]
   show bnd (Znj ys id m _) _=_
   rw[hr,Zk]
   unfold Zll ZaT
   rw[if_pos (by omega)]
  simp only
  rw[e5]
 rw[hs,Zk]
 rw[show p+(1+((uB (P.length:Int)).length+P.length))=p+1+(uB (P.length:Int)).length+P.length by omega]
theorem ZAn {α:Type}{f:α->Ow->Ow}{B:α->List Int}{K:α->Bool}: ∀l:List α,(∀x∈l,Ap (f x) (B x) (K x))->Ap (ZbA f l) (l.flatMap B) (l.all K)
 |[],_=>Zsa
 |x::l,h=>by
  rw[List.flatMap_cons,List.all_cons]
  exact(h x (List.mem_cons_self ..)).comp (ZAn l (fun y hy=>h y (Yaq _ hy)))
theorem Zwd {id:Int}(hid:1<=id/\id<=11){c:Bool}{P:List Int}{K:Bool}(hP:bytes P)(p:Ow->Ow)(hb: ∀o,(p o).b=P)(hk: ∀o,(p o).bad=(o.bad|| !K)):Ap (fun o=>Zf1 id (p o) o) ([id]++(uB (P.length:Int)++P)) (K&&Zaf (P.length:Int)):=
 ⟨fun o=>by
  unfold Zf1
  show((o.b++[id])++uB ((p o).b.length:Int))++(p o).b=_
  rw[hb o]
  simp only[Ya6],fun o=>by
  unfold Zf1
  show((o.bad|| !(!(p o).bad))|| !(Zaf ((p o).b.length:Int)))=_
  rw[hb o,hk o]
  generalize Zaf (P.length:Int)=z
  cases o.bad<;>cases K<;>cases z<;>rfl,Zba (ZaF (by omega)) (Zba (ZeS _) hP)⟩
theorem ZAo {α:Type}{f:α->Ow->Ow}{id most:Int}{l:List α}{P:List Int}{K:Bool}(hid:1<=id/\id<=11)(hl: ¬l.length=0)(hrow:Ap (fun o=>ZbA f l (Z9 [(l.length:Int)] o)) P K):Ap (Zbk f id most l) ([id]++(uB (P.length:Int)++P)) (decide ((l.length:Int)<=most)&&K&&Zaf (P.length:Int)):=by
 have hput:=Zwd hid (c:=true) (P:=P) (K:=decide ((l.length:Int)<=most)&&K) hrow.by_ (fun o=>ZbA f l (Z9 [(l.length:Int)] ⟨[],(Zy (decide ((l.length:Int)<=most)) o).bad⟩)) (fun o=>by
  have:=hrow.b ⟨[],(Zy (decide ((l.length:Int)<=most)) o).bad⟩
  rw[List.nil_append]at this
  exact this) (fun o=>by
  have:=hrow.bad ⟨[],(Zy (decide ((l.length:Int)<=most)) o).bad⟩
  refine this.trans ?_
  show((o.bad|| !(decide ((l.length:Int)<=most)))|| !K)=_
  generalize decide ((l.length:Int)<=most)=z
  cases o.bad<;>cases z<;>cases K<;>rfl)
 have e:Zbk f id most l=fun o=>Zf1 id (ZbA f l (Z9 [(l.length:Int)] ⟨[],(Zy (decide ((l.length:Int)<=most)) o).bad⟩)) (Zy (decide ((l.length:Int)<=most)) o):=by
  funext o
  unfold Zbk
  rw[if_neg hl]
 rw[e]
 refine⟨fun o=>hput.b o,fun o=> ?_,hput.by_⟩
 have:=hput.bad o
 have h2:(Zf1 id (ZbA f l (Z9 [(l.length:Int)] ⟨[],(Zy (decide ((l.length:Int)<=most)) o).bad⟩)) (Zy (decide ((l.length:Int)<=most)) o)).bad=((Zf1 id (ZbA f l (Z9 [(l.length:Int)] ⟨[],(Zy (decide ((l.length:Int)<=most)) o).bad⟩)) o).bad|| !(decide ((l.length:Int)<=most))):=by
  unfold Zf1
  show(((o.bad|| !(decide ((l.length:Int)<=most)))||_)||_)=(((o.bad||_)||_)||_)
  generalize decide ((l.length:Int)<=most)=z
  generalize (!Zaf _)=z2
  generalize (!(!Ow.bad _))=z3
  cases o.bad<;>cases z<;>cases z2<;>cases z3<;>rfl
 rw[h2]
 refine(congrArg (· || !(decide ((l.length:Int)<=most))) this).trans ?_
 show((o.bad|| !((decide ((l.length:Int)<=most)&&K)&&Zaf (P.length:Int)))|| !(decide ((l.length:Int)<=most)))=_
 generalize decide ((l.length:Int)<=most)=z
 generalize Zaf (P.length:Int)=z2
 cases o.bad<;>cases z<;>cases z2<;>cases K<;>rfl
theorem Zo9 {α:Type}{f:α->Ow->Ow}{id most:Int}{l:List α}(hmost:0<=most)(hl:l.length=0):Ap (Zbk f id most l) [] true:=by
 have e:Zbk f id most l=Zy true:=by
  funext o
  unfold Zbk
  rw[if_pos hl,hl,Yae (by exact hmost)]
 rw[e];exact ZcG true
theorem Zj2 {α:Type}{f:α->Ow->Ow}{T:List Int->Int->Res α}{id most:Int}{l:List α}{m m':Mod}(h: ∀x∈l,Wr (f x) T x)(hid:1<=id/\id<=11)(h0:l=[]->m'=m)(hmost:0<=most)
 (hsec: ∀B,RdB (fun xs p=>Z3 xs most (T xs) p) B l->RdB (fun xs p=>Znj xs id m p) B m'): ∃B K,Ap (Zbk f id most l) B K/\(K=true->Stg B id id m m'):=by
 by_cases hl:l.length=0
 ·have hl0:=Yay hl
  exact⟨[],true,Zo9 hmost hl,fun _=>by rw[h0 hl0];exact Stg.nil id m⟩
 ·have hch: ∀x:α,∃BK:List Int×Bool,x∈l->Ap (f x) BK.1 BK.2/\(BK.2=true->RdB T BK.1 x):=fun x=>by
   by_cases hx:x∈l
   ·obtain⟨B,K,g⟩:=h x hx
    exact⟨(B,K),fun _=>g⟩
   ·exact⟨([],true),fun g=>absurd g hx⟩
  have⟨F,hF⟩: ∃F:α->List Int×Bool,∀x,x∈l->Ap (f x) (F x).1 (F x).2/\((F x).2=true->RdB T (F x).1 x):=⟨fun x=>(hch x).choose,fun x=>(hch x).choose_spec⟩
  have hrow:=(ZaX (l.length:Int)).comp (ZAn (f:=f) (B:=fun x=>(F x).1) (K:=fun x=>(F x).2) l (fun x hx=>(hF x hx).1))
  refine⟨_,_,ZAo hid hl hrow,fun hk=> ?_⟩
  simp only[Yao,Yaz]at hk
  obtain⟨⟨k1,k2⟩,k3⟩:=hk
  refine Zwc hid k3 (hsec _ ?_)
  exact ZlG l k1 k2.1 (fun x hx=>(hF x hx).2 (Yat.1 k2.2 x hx))
theorem Zga {α:Type}{T:List Int->Int->Res α}{most:Int}{B:List Int}{l:List α}(h:RdB (fun xs p=>Z3 xs most (T xs) p) B l){m':List α->Mod}:RdB (fun xs p=>bnd (Z3 xs most (T xs) p) fun l t=> .ok (m' l,t)) B (m' l):=by
 intro xs p hb ha
 have:=h xs p hb ha
 simp only at this ⊢
 rw[this];rfl
def okC (c:List Ins):Prop:=(∀i∈c,ZbM i)/\c.length<=1048576/\(ZeJ c).length<=1000000000
structure OkM (m:Mod):Prop where
 g: ∀x∈m.globals,okC x.c
 e: ∀x∈m.elems,okC x.c
 c: ∀x∈m.codes,okC x.c
 d: ∀x∈m.datas,okC x.c/\bytes x.b
theorem Zwe {xs:List Int}(hb:bytes xs): ∀(l:List Int) (p:Nat),AtB xs p l->Zih xs l p= .ok ((),((p+l.length:Nat):Int))
 |[],_,_=>rfl
 |c::l,p,h=>by
  have h:AtB xs p ([c]++l):=h
  obtain⟨h1,h2⟩:=h.app
  rw[Zih,ZdX c xs p hb h1,Zk]
  unfold ZaT
  rw[if_pos rfl]
  have:=Zwe hb l _ h2
  have e9:p+[c].length+l.length=p+(c::l).length:=by simp only[Yag,List.length_nil];omega
  rw[this,e9]
theorem ZGe {m:Mod}{s:Int}(h:Zaf s=true):RdB (fun xs p=>Znj xs 8 m p) (uB s) { m with start:=s }:=by
 intro xs p hb ha
 show Znj xs 8 m p=_
 unfold Znj
 simp only[Int.reduceEq,↓reduceIte]
 rw[ZjI h xs p hb ha];rfl
theorem ZD0 {m m':Mod}{s:Int}(h:{ m with start:=s }=m')(h1:s= -1->m'=m): ∃B K,Ap (fun o=>Zef s (Zy (decide (s >= -1)) o)) B K/\(K=true->Stg B 8 8 m m'):=by
 by_cases hs:s>=0
 ·have hp:bytes (uB s):=ZeS s
  have hput:=Zwd (id:=8) (by omega) (c:=true) (P:=uB s) (K:=Zaf s) hp (fun _=>Z9 [s] ⟨[],false⟩) (fun _=>rfl)
  refine⟨[8]++(uB ((uB s).length:Int)++uB s),Zaf s&&Zaf ((uB s).length:Int),⟨fun o=> ?_,fun o=> ?_,Zba (ZaF (by omega)) (Zba (ZeS _) hp)⟩,fun hk=> ?_⟩
  ·unfold Zef
   rw[if_pos hs]
   show(o.b++[8]++uB ((uB s).length:Int))++uB s=_
   simp only[Ya6]
  ·unfold Zef
   rw[if_pos hs]
   show(((o.bad|| !(decide (s >= -1)))|| !(!(false|| !(Zaf s))))|| !(Zaf ((uB s).length:Int)))=_
   rw[Yae (by omega)]
   generalize Zaf ((uB s).length:Int)=z
   generalize Zaf s=z2
   cases o.bad<;>cases z<;>cases z2<;>rfl
  ·simp only[Yao]at hk
   rw[<- h]
   exact Zwc (by omega) hk.2 (ZGe hk.1)
 ·refine⟨[],decide (s >= -1),?_,fun hk=> ?_⟩
  ·have e:(fun o=>Zef s (Zy (decide (s >= -1)) o))=Zy (decide (s >= -1)):=by
    funext o;unfold Zef;rw[if_neg hs]
   rw[e];exact ZcG _
  ·rw[Yaz]at hk
   rw[h1 (by omega)]
   exact Stg.nil 8 m
theorem ZBI (m:Mod)(h:OkM m): ∃B K,Ap (fun o=>Zbk Zhd 11 512 m.datas<|Zbk Ze4 10 512 m.codes<|Zbk Zhe 9 512 m.elems<|Zef m.start<|Zy (decide (m.start >= -1)) <|
 Zbk ZqL 7 512 m.exports<|Zbk Zhf 6 512 m.globals<|Zbk Zr1 5 512 m.mems<|Zbk ZqW 4 512 m.tables<|Zbk ZoX 3 512 m.funcs <|
 Zbk ZqP 2 512 m.imports<|Zbk ZqN 1 256 m.types o) B K/\(K=true->Stg B 1 11 { ZnR with start:= -1 } m):=by
 obtain⟨ty,im,fu,ta,me,gl,ex,st,el,co,da⟩:=m
 obtain⟨hg,he,hc,hd⟩:=h
 simp only at hg he hc hd ⊢
 obtain⟨B1,K1,a1,s1⟩:=Zj2 (id:=1) (most:=256) (m:=⟨[],[],[],[],[],[],[], -1,[],[],[]⟩) (m':=⟨ty,[],[],[],[],[],[], -1,[],[],[]⟩) (T:=Zqw) (fun x _=>ZDV x) (by omega) (fun h=>by rw[h]) (by omega) (fun B h=>Zga h (m':=fun l=>⟨l,[],[],[],[],[],[], -1,[],[],[]⟩))
 obtain⟨B2,K2,a2,s2⟩:=Zj2 (id:=2) (most:=512) (m:=⟨ty,[],[],[],[],[],[], -1,[],[],[]⟩) (m':=⟨ty,im,[],[],[],[],[], -1,[],[],[]⟩) (T:=Zqx) (fun x _=>ZDW x) (by omega) (fun h=>by rw[h]) (by omega) (fun B h=>Zga h (m':=fun l=>⟨ty,l,[],[],[],[],[], -1,[],[],[]⟩))
 obtain⟨B3,K3,a3,s3⟩:=Zj2 (id:=3) (most:=512) (m:=⟨ty,im,[],[],[],[],[], -1,[],[],[]⟩) (m':=⟨ty,im,fu,[],[],[],[], -1,[],[],[]⟩) (T:=nmT) (fun x _=>ZDU x) (by omega) (fun h=>by rw[h]) (by omega) (fun B h=>Zga h (m':=fun l=>⟨ty,im,l,[],[],[],[], -1,[],[],[]⟩))
 obtain⟨B4,K4,a4,s4⟩:=Zj2 (id:=4) (most:=512) (m:=⟨ty,im,fu,[],[],[],[], -1,[],[],[]⟩) (m':=⟨ty,im,fu,ta,[],[],[], -1,[],[],[]⟩) (T:=ZoO) (fun x _=>ZDX x) (by omega) (fun h=>by rw[h]) (by omega) (fun B h=>Zga h (m':=fun l=>⟨ty,im,fu,l,[],[],[], -1,[],[],[]⟩))
 obtain⟨B5,K5,a5,s5⟩:=Zj2 (id:=5) (most:=512) (m:=⟨ty,im,fu,ta,[],[],[], -1,[],[],[]⟩) (m':=⟨ty,im,fu,ta,me,[],[], -1,[],[],[]⟩) (T:=fun xs=>Zjx xs 16) (fun x _=>ZDY x) (by omega) (fun h=>by rw[h]) (by omega) (fun B h=>Zga h (m':=fun l=>⟨ty,im,fu,ta,l,[],[], -1,[],[],[]⟩))
 obtain⟨B6,K6,a6,s6⟩:=Zj2 (id:=6) (most:=512) (m:=⟨ty,im,fu,ta,me,[],[], -1,[],[],[]⟩) (m':=⟨ty,im,fu,ta,me,gl,[], -1,[],[],[]⟩) (T:=Zg1) (fun x hx=>ZBB x (hg x hx).1) (by omega) (fun h=>by rw[h]) (by omega) (fun B h=>Zga h (m':=fun l=>⟨ty,im,fu,ta,me,l,[], -1,[],[],[]⟩))
 obtain⟨B7,K7,a7,s7⟩:=Zj2 (id:=7) (most:=512) (m:=⟨ty,im,fu,ta,me,gl,[], -1,[],[],[]⟩) (m':=⟨ty,im,fu,ta,me,gl,ex, -1,[],[],[]⟩) (T:=Zqy) (fun x _=>ZDZ x) (by omega) (fun h=>by rw[h]) (by omega) (fun B h=>Zga h (m':=fun l=>⟨ty,im,fu,ta,me,gl,l, -1,[],[],[]⟩))
 obtain⟨B8,K8,a8,s8⟩:=ZD0 (m:=⟨ty,im,fu,ta,me,gl,ex, -1,[],[],[]⟩) (m':=⟨ty,im,fu,ta,me,gl,ex,st,[],[],[]⟩) (s:=st) rfl (fun h=>by rw[h])
 obtain⟨B9,K9,a9,s9⟩:=Zj2 (id:=9) (most:=512) (m:=⟨ty,im,fu,ta,me,gl,ex,st,[],[],[]⟩) (m':=⟨ty,im,fu,ta,me,gl,ex,st,el,[],[]⟩) (T:=Zg2) (fun x hx=>ZBC x (he x hx).1) (by omega) (fun h=>by rw[h]) (by omega) (fun B h=>Zga h (m':=fun l=>⟨ty,im,fu,ta,me,gl,ex,st,l,[],[]⟩))
 obtain⟨B10,K10,a10,s10⟩:=Zj2 (id:=10) (most:=512) (m:=⟨ty,im,fu,ta,me,gl,ex,st,el,[],[]⟩) (m':=⟨ty,im,fu,ta,me,gl,ex,st,el,co,[]⟩) (T:=Zg4) (fun x hx=>ZBH x (hc x hx).1) (by omega) (fun h=>by rw[h]) (by omega) (fun B h=>Zga h (m':=fun l=>⟨ty,im,fu,ta,me,gl,ex,st,el,l,[]⟩))
 obtain⟨B11,K11,a11,s11⟩:=Zj2 (id:=11) (most:=512) (m:=⟨ty,im,fu,ta,me,gl,ex,st,el,co,[]⟩) (m':=⟨ty,im,fu,ta,me,gl,ex,st,el,co,da⟩) (T:=Zg3) (fun x hx=>ZBD x (hd x hx).1.1 (hd x hx).2) (by omega) (fun h=>by rw[h]) (by omega) (fun B h=>Zga h (m':=fun l=>⟨ty,im,fu,ta,me,gl,ex,st,el,co,l⟩))
 refine⟨_,_,((((((((((a1.comp a2).comp a3).comp a4).comp a5).comp a6).comp a7).comp a8).comp a9).comp a10).comp a11),fun hk=> ?_⟩
 simp only[Yao]at hk
 obtain⟨⟨⟨⟨⟨⟨⟨⟨⟨⟨k1,k2⟩,k3⟩,k4⟩,k5⟩,k6⟩,k7⟩,k8⟩,k9⟩,k10⟩,k11⟩:=hk
 exact((((((((((s1 k1).comp (s2 k2) (by omega)).comp (s3 k3) (by omega)).comp (s4 k4) (by omega)).comp (s5 k5) (by omega)).comp (s6 k6) (by omega)).comp (s7 k7) (by omega)).comp (s8 k8) (by omega)).comp (s9 k9) (by omega)).comp (s10 k10) (by omega)).comp (s11 k11) (by omega)
theorem ZBJ {m:Mod}(h:OkM m)(hk:(ZfR m).bad=false):bytes (ZfR m).b/\Zu9 (ZfR m).b= .ok (m,((ZfR m).b.length:Int)):=by
 obtain⟨B,K,ha,hs⟩:=ZBI m h
 have hb:=ha.b (Zy ((m.funcs.length:Int)==(m.codes.length:Int)) ⟨Zcr,false⟩)
 have hd:=ha.bad (Zy ((m.funcs.length:Int)==(m.codes.length:Int)) ⟨Zcr,false⟩)
 have hb:(ZfR m).b=Zcr++B:=hb
 have hd:(ZfR m).bad=((false|| !((m.funcs.length:Int)==(m.codes.length:Int)))|| !K):=hd
 rw[hk]at hd
 have hby:=ha.by_
 have hK:K=true:=by cases K with|true=>rfl|false=>rw[Bool.not_false,Bool.or_true]at hd;exact Bool.noConfusion hd
 have hlen:m.funcs.length=m.codes.length:=by
  rw[hK,Bool.not_true,Bool.or_false,Bool.false_or]at hd
  cases e:((m.funcs.length:Int)==(m.codes.length:Int))with
  |true=>rw[beq_iff_eq]at e;omega
  |false=>rw[e]at hd;exact Bool.noConfusion hd
 have hh:bytes Zcr:=by
  intro x hx
  simp only[Zcr,Yav,List.not_mem_nil,or_false]at hx
  unfold byte
  omega
 have hbb:bytes (Zcr++B):=Zba hh hby
 rw[hb]
 refine⟨hbb,?_⟩
 have hat:AtB (Zcr++B) 0 (Zcr++B):=⟨Nat.zero_le _,[],by rw[List.append_nil];rfl⟩
 obtain⟨h1,h2⟩:=hat.app
 unfold Zu9
 have e1:=Zwe hbb Zcr 0 h1
 have e1:Zih (Zcr++B) [0,97,115,109,1,0,0,0] 0= .ok ((),((0+Zcr.length:Nat):Int)):=e1
 rw[e1,Zk]
 obtain⟨n',last',g1,g2,g3⟩:=hs hK (Zcr++B) (Zcr++B).length 0 (0+Zcr.length) hbb h2 (by omega) (by omega)
 rw[g3]
 have e2:0+Zcr.length+B.length=(Zcr++B).length:=by rw[Yal,Nat.zero_add]
 rw[e2]
 have e3:Zf0 (Zcr++B) n' last' m (((Zcr++B).length:Nat):Int)= .ok (m,(((Zcr++B).length:Nat):Int)):=by
  cases n' with
  |zero=>rfl
  |succ n=>rw[Zf0,if_neg (by omega)]
 rw[e3,Zk]
 unfold ZaT
 rw[if_pos (by exact hlen.symm)]
theorem ZlK {m:Mod}(h:OkM m)(he:(ZdI m).2=0):bytes (ZdI m).1/\(ZdI m).1.length<=16384/\Zkx (ZdI m).1=(m,0):=by
 unfold ZdI at he ⊢
 by_cases c:(ZfR m).bad=true
 ·rw[if_pos c]at he;exact absurd he (by decide)
 ·rw[if_neg c]at he ⊢
  by_cases c2:(ZfR m).b.length>16384
  ·rw[if_pos c2]at he;exact absurd he (by decide)
  ·rw[if_neg c2]
   obtain⟨h1,h2⟩:=ZBJ h (by simpa using c)
   refine⟨h1,by simp only;omega,?_⟩
   unfold Zkx
   simp only
   rw[if_neg c2,h2]
theorem ZBK {m:Mod}(he:(ZdI m).2≠0):(ZdI m).1=[]/\((ZdI m).2=1\/(ZdI m).2=4):=by
 unfold ZdI at he ⊢
 by_cases c:(ZfR m).bad=true
 ·rw[if_pos c];exact⟨rfl,.inl rfl⟩
 ·rw[if_neg c]at he ⊢
  by_cases c2:(ZfR m).b.length>16384
  ·rw[if_pos c2];exact⟨rfl,.inr rfl⟩
  ·rw[if_neg c2]at he;exact absurd rfl he
structure LnM (m:Mod):Prop where
 sz:szM m+500<=1000000000
 ln:m.types.length<=1000000000/\m.imports.length<=1000000000/\m.funcs.length<=1000000000/\m.tables.length<=1000000000/\m.mems.length<=1000000000/\m.globals.length<=1000000000/\m.exports.length<=1000000000/\m.elems.length<=1000000000/\m.codes.length<=1000000000/\m.datas.length<=1000000000
theorem ZfS {α:Type}{sz:α->Nat}{x:α}: ∀{l:List α},x∈l->sz x<=Zaa sz l
 |y::l,h=>by
  rw[Zaa]
  rcases Yav.1 h with rfl|h
  ·omega
  ·have:=ZfS (sz:=sz) h;omega
theorem Zq7 {c:List Ins}(h:okC c):SmC c:=⟨by have:=h.2.1;omega,fun i hi=>by have:=(h.1 i hi).n;omega⟩
theorem ZBP {m:Mod}(hm:OkM m)(hl:LnM m):SmM m:=by
 obtain⟨hz,n1,n2,n3,n4,n5,n6,n7,n9,n10,n11⟩:=hl
 unfold szM at hz
 refine⟨by omega,fun x hx=> ?_,by omega,by omega,by omega,by omega,by omega,fun x hx=>Zq7 (hm.g x hx),by omega,by omega,fun x hx=>⟨Zq7 (hm.e x hx),?_⟩,by omega,fun x hx=>⟨?_,Zq7 (hm.c x hx)⟩,by omega,fun x hx=>⟨Zq7 (hm.d x hx).1,(hm.d x hx).2⟩⟩
 ·have h:=ZfS (sz:=Zgx) hx
  unfold Zgx at h hz
  exact⟨by omega,by omega⟩
 ·have h:=ZfS (sz:=Zdw) hx
  unfold Zdw at h hz
  omega
 ·have h:=ZfS (sz:=Zdx) hx
  unfold Zdx at h hz
  omega
end Go.Proofs.YtimhmpdfioihlaaGreatDoor
