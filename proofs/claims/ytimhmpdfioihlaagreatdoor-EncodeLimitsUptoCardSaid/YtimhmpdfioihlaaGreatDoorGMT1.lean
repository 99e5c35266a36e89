/- How a reader goes on. -/
import Derived.Test.YtimhmpdfioihlaaGreatDoorGV6
import Derived.Test.YtimhmpdfioihlaaGreatDoorGWP
import Derived.Test.YtimhmpdfioihlaaGreatDoorGPreV
import Derived.Test.YtimhmpdfioihlaaGreatDoorDP
import Derived.Test.YtimhmpdfioihlaaGreatDoorGCB
import Derived.Test.YtimhmpdfioihlaaGreatDoorGRefpre
set_option linter.unusedSimpArgs false
set_option linter.unusedVariables false
set_option maxHeartbeats 12800000
namespace Go.Proofs.YtimhmpdfioihlaaGreatDoor
set_option maxRecDepth 20000
open Go Go.Abs
theorem ZFp:Za Tryz.prog 104=true:=by kernel_rfl
structure Adv (b:List Int)(r r':Rd):Prop where
 ok:ZcB b r'
 pos:r.pos<=r'.pos
 err:r'.err=0->r.err=0
theorem Adv.refl {b:List Int}{r:Rd}(h:ZcB b r):Adv b r r:=⟨h,Int.le_refl _,id⟩
theorem Adv.trans {b:List Int}{r r1 r2:Rd}(h:Adv b r r1)(h2:Adv b r1 r2):Adv b r r2:=⟨h2.ok,Int.le_trans h.pos h2.pos,fun h0=>h.err (h2.err h0)⟩
theorem ZaO {b:List Int}{r:Rd}(e:Int)(he:e≠0)(h:ZcB b r):Adv b r (Zah r e):=by
 refine⟨Zc9 h e,?_,?_⟩
 ·unfold Zah;split<;>exact Int.le_refl _
 ·unfold Zah;split
  ·intro h0;exact absurd h0 he
  ·exact id
theorem Zli (r:Rd){e:Int}(he:e≠0):(Zah r e).err≠0:=by
 unfold Zah;split
 ·exact he
 ·assumption
theorem ZgY {b:List Int}{r:Rd}(h:ZcB b r):Adv b r (Zal b r).2/\((Zal b r).2.err=0->r.pos+1<=(Zal b r).2.pos):=by
 refine⟨⟨Zix h,?_,?_⟩,?_⟩<;>unfold Zal<;>split
 ·exact(ZaO 10 (by decide) h).pos
 ·simp only;omega
 ·exact(ZaO (b:=b) 10 (by decide) h).err
 ·exact id
 ·intro h0;exact absurd h0 (Zli r (by decide))
 ·intro _;simp only;omega
theorem ZgZ {b:List Int}(hb:bytes b){r:Rd}(h:ZcB b r):Adv b r (Zay b r).2:=by
 refine⟨(Zfm hb h).1,?_,?_⟩
 ·unfold Zay;split
  ·exact Int.le_refl _
  ·split
   ·exact(ZaO 10 (by decide) h).pos
   ·rename_i _ c
    have:=ZcK hb ⟨h.p0,h.p1⟩ (Classical.not_not.1 c)
    simp only;omega
 ·unfold Zay;split
  ·exact id
  ·split
   ·exact(ZaO (b:=b) 10 (by decide) h).err
   ·exact id
theorem Zlj {b:List Int}{r:Rd}{n:Int}(hn:1<=n/\n<=64)(h:ZcB b r):Adv b r (ZfH b n r).2:=by
 refine⟨ZAS hn h,?_,?_⟩
 ·unfold ZfH;split
  ·exact Int.le_refl _
  ·split
   ·exact(ZaO 10 (by decide) h).pos
   ·rename_i _ c
    have:=ZgW hn ⟨h.p0,h.p1⟩ (Classical.not_not.1 c)
    simp only;omega
 ·unfold ZfH;split
  ·exact id
  ·split
   ·exact(ZaO (b:=b) 10 (by decide) h).err
   ·exact id
theorem Zu7 {b:List Int}{r:Rd}(h:ZcB b r):Adv b r (ZfY b r).2:=by
 have hN:Adv b r (Zjw b r).2:=by
  have h1:=Zlj (n:=33) ⟨by decide,by decide⟩ h
  unfold Zjw;simp only;split
  ·exact h1.trans (ZaO 10 (by decide) h1.ok)
  ·exact h1
 have h0:=h.p0;have h1:=h.p1
 unfold ZfY;split
 ·split
  ·exact⟨⟨by simp only;omega,by simp only;omega⟩,by simp only;omega,id⟩
  ·split
   ·exact ZaO 11 (by decide) h
   ·exact hN
 ·exact hN
theorem Zqu {b:List Int}(hb:bytes b): ∀(n:Nat) (r:Rd) (l:List Int),ZcB b r->Adv b r (Zie b n r l).2
 |0,_,_,h=> .refl h
 |n+1,r,l,h=>by
  rw[Zie];split
  ·have h1:=ZgZ hb h
   exact h1.trans (Zqu hb n _ _ h1.ok)
  ·exact .refl h
theorem Zqv {b:List Int}: ∀(n:Nat) (r:Rd),ZcB b r->Adv b r (Zgp b n r).2
 |0,_,h=> .refl h
 |n+1,r,h=>by
  rw[Zgp]
  have h1:=(ZgY h).1
  exact h1.trans (Zqv n _ h1.ok)
theorem ZoM {b:List Int}(hb:bytes b)(form:Int){r:Rd}(i:Ins)(h:ZcB b r):Adv b r (Zv b form r i).2:=by
 have hN:=ZgZ hb h
 have hN2:=hN.trans (ZgZ hb hN.ok)
 have hB:=(ZgY h).1
 unfold Zv
 by_cases c1:form=2
 ·rw[if_pos c1];exact Zu7 h
 rw[if_neg c1]
 by_cases c2:form=3\/form=5
 ·rw[if_pos c2];exact hN
 rw[if_neg c2]
 by_cases c3:form=4
 ·rw[if_pos c3]
  have hT:=hN.trans (Zqu hb (Zay b r).1.toNat _ i.l hN.ok)
  exact hT.trans (ZgZ hb hT.ok)
 rw[if_neg c3]
 by_cases c4:form=6\/form=7
 ·rw[if_pos c4];exact hN2
 rw[if_neg c4]
 by_cases c5:form=8
 ·rw[if_pos c5];exact hN2.trans (ZgY hN2.ok).1
 rw[if_neg c5]
 by_cases c6:form=9
 ·rw[if_pos c6];exact Zlj ⟨by decide,by decide⟩ h
 rw[if_neg c6]
 by_cases c7:form=10
 ·rw[if_pos c7];exact Zlj ⟨by decide,by decide⟩ h
 rw[if_neg c7]
 by_cases c8:form=11\/form=12
 ·rw[if_pos c8];exact Zqv 16 r h
 rw[if_neg c8]
 by_cases c9:form=13
 ·rw[if_pos c9];exact hB
 rw[if_neg c9]
 by_cases c10:form=14
 ·rw[if_pos c10]
  show Adv b r (if(Zal b r).1≠0 then Zah (Zal b r).2 10 else(Zal b r).2)
  by_cases c:(Zal b r).1≠0
  ·rw[if_pos c];exact hB.trans (ZaO 10 (by decide) hB.ok)
  ·rw[if_neg c];exact hB
 rw[if_neg c10]
 exact .refl h
theorem ZrG {b:List Int}{r:Rd}(op:Int)(h:ZcB b r):Adv b r (ZbR op r):=by
 have h3:=ZaO (b:=b) 3 (by decide) h
 unfold ZbR;split
 ·split
  ·exact⟨⟨h3.ok.p0,h3.ok.p1⟩,h3.pos,h3.err⟩
  ·exact⟨⟨h.p0,h.p1⟩,Int.le_refl _,id⟩
 ·split
  ·exact ZaO 10 (by decide) h
  ·exact⟨⟨h.p0,h.p1⟩,Int.le_refl _,id⟩
theorem ZAW {b:List Int}(hb:bytes b){r:Rd}(h:ZcB b r):Adv b r (opS b r).2/\((opS b r).2.err=0->r.pos+1<=(opS b r).2.pos):=by
 obtain⟨hB,hp⟩:=ZgY h
 have hN:=ZgZ hb hB.ok
 unfold opS;split
 ·exact⟨hB.trans hN,fun h0=>Int.le_trans (hp (hN.err h0)) hN.pos⟩
 ·split
  ·have hF:Adv b (Zay b (Zal b r).2).2 (if(Zay b (Zal b r).2).1<=7 then Zah (Zay b (Zal b r).2).2 11 else(Zay b (Zal b r).2).2):=by
    split
    ·exact ZaO 11 (by decide) hN.ok
    ·exact .refl hN.ok
   have hG:=ZaO (b:=b) 10 (by decide) hF.ok
   refine⟨hB.trans (hN.trans (hF.trans hG)),fun h0=> ?_⟩
   exact absurd h0 (Zli _ (by decide))
  ·exact⟨hB,hp⟩
theorem Zu8 {b:List Int}(hb:bytes b)(op:Int){r:Rd}(h:ZcB b r):Adv b r (ZrD b op r).2:=by
 rw[ZeH]
 have h1:Adv b r (ZlW op r):=by
  unfold ZlW;split
  ·exact ZaO 11 (by decide) h
  ·exact .refl h
 have h2:Adv b r (ZlX op (ZlW op r)):=by
  unfold ZlX;split
  ·exact h1
  ·exact h1.trans (ZaO 10 (by decide) h1.ok)
 have h3:Adv b r (Zd9 b op (ZlX op (ZlW op r))).2:=by
  unfold Zd9;split
  ·exact h2.trans (ZoM hb _ _ h2.ok)
  ·exact h2
 unfold Zqt;simp only;split
 ·exact h3.trans (ZrG op h3.ok)
 ·exact h3
theorem Zkw {b:List Int}(hb:bytes b){r:Rd}(h:ZcB b r):Adv b r (Zbn b r).2/\((Zbn b r).2.err=0->r.pos+1<=(Zbn b r).2.pos):=by
 rw[ZgX]
 obtain⟨h1,hp⟩:=ZAW hb h
 have h2:=Zu8 hb (opS b r).1 h1.ok
 exact⟨h1.trans h2,fun h0=>Int.le_trans (hp (h2.err h0)) h2.pos⟩
theorem ZC4 (b:List Int)(r:Rd):(opS b r).2.op=r.op:=by
 unfold opS;split
 ·simp only[ZhO,ZeI]
 ·split
  ·simp only[Za1]
   split<;>simp only[Za1,ZhO,ZeI]
  ·exact ZeI b r
theorem Zyw (b:List Int)(op:Int)(r:Rd):(Zd9 b op r).2.op=r.op:=by
 unfold Zd9;split
 ·exact Zkv _ _ _ _
 ·rfl
theorem ZAX (op:Int)(r:Rd):(ZlX op r).op=r.op:=by
 unfold ZlX;split
 ·rfl
 ·exact Za1 _ _
theorem ZAY (op:Int)(r:Rd):(ZlW op r).op=r.op:=by
 unfold ZlW;split
 ·exact Za1 _ _
 ·rfl
theorem ZrH {op:Int}{r:Rd}(h:r.op.length<=128)(h0:(ZbR op r).err=0):(ZbR op r).op.length<=128:=by
 unfold ZbR at *;split
 ·rename_i h5
  rw[if_pos h5]at h0
  simp only at h0
  by_cases h128:r.op.length=128
  ·rw[if_pos h128]at h0
   exact absurd h0 (Zli r (by decide))
  ·simp only[Yal,Yag,List.length_nil];omega
 ·split
  ·rw[Za1];exact h
  ·simp only[Yal,Yag,List.length_nil,Yar];omega
theorem ZrI {b:List Int}{r:Rd}(h:r.op.length<=128)(h0:(Zbn b r).2.err=0):(Zbn b r).2.op.length<=128:=by
 rw[ZgX,ZeH]at *
 have hop:(Zd9 b (opS b r).1 (ZlX (opS b r).1 (ZlW (opS b r).1 (opS b r).2))).2.op=r.op:=by rw[Zyw,ZAX,ZAY,ZC4]
 generalize Zd9 b (opS b r).1 (ZlX (opS b r).1 (ZlW (opS b r).1 (opS b r).2))=z at *
 unfold Zqt at *;simp only at *
 split
 ·rename_i c
  rw[if_pos c]at h0
  exact ZrH (by rw[hop];exact h) h0
 ·rw[hop];exact h
def Zap (l:List Ins):List V:=l.flatMap ZgV
theorem Zni (l:List Ins):(Zap l).length=l.length*6:=by
 induction l with
 |nil=>rfl
 |cons i l ih=>
  have:Zap (i::l)=ZgV i++Zap l:=rfl
  rw[this,Yal,ih,Yag];show 6+_=_;omega
theorem ZrJ (l:List Ins)(i:Ins):Zap l++ZgV i=Zap (l++[i]):=by simp[Zap]
def ZdU (b:List Int):Nat->Rd->List Ins->List Ins×Int×Int
 |0,_,_=>([],0,10)
 |n+1,r,l=>
  if(Zbn b r).2.err≠0 then([],0,(Zbn b r).2.err)
  else if(Zbn b r).1.op=11 then
    if(ZeW (Zbn b r).2).1=true then(l++[(Zbn b r).1],(ZeW (Zbn b r).2).2.pos,0)else ZdU b n (ZeW (Zbn b r).2).2 (l++[(Zbn b r).1])
  else ZdU b n (Zbn b r).2 (l++[(Zbn b r).1])
def ZbG (b:List Int)(p:Int):List Ins×Int×Int:=if p<0\/p>b.length then([],0,1)else ZdU b (b.length+1) ⟨p,[],[],0⟩ []
abbrev Res (α:Type):=Except (Int×Int) (α×Int)
def bnd {α β:Type}(x:Res α)(f:α->Int->Res β):Res β:=match x with
 |.ok (a,t)=>f a t
 |.error z=> .error z
theorem Zk {α β:Type}(a:α)(t:Int)(f:α->Int->Res β):bnd (.ok (a,t)) f=f a t:=rfl
theorem Zn {α β:Type}(z:Int×Int)(f:α->Int->Res β):bnd (.error z) f= .error z:=rfl
def Zcj (xs:List Int)(p:Int):Res Int:=if p>=xs.length then .error (10,p)else .ok (xs.getD p.toNat 0,p+1)
def nmT (xs:List Int)(p:Int):Res Int:=if(Zbg xs p 32).2.2≠0 then .error (10,p)else .ok ((Zbg xs p 32).1,(Zbg xs p 32).2.1)
def Zh5 (xs:List Int)(most:Int)(p:Int):Res Int:=bnd (nmT xs p) fun n t=>if n>most then .error (3,t)else .ok (n,t)
def ZoN (xs:List Int)(n p:Int):Res Int:=if n>xs.length-p then .error (10,p)else .ok (p,p+n)
def Zg0 (xs:List Int)(p:Int):Res Int:=bnd (nmT xs p) (ZoN xs)
def Zdp (xs:List Int)(p:Int):Res (List Int):=bnd (Zg0 xs p) fun s t=> .ok ((xs.drop s.toNat).take (t-s).toNat,t)
def Ze3 (xs:List Int)(p:Int):Res (List UInt8):=bnd (Zdp xs p) fun l t=>if ZaV l=true then .ok (toS l,t)else .error (10,t)
def ZcR (xs:List Int)(p:Int):Res Int:=bnd (Zcj xs p) fun c t=>if c=127\/c=126\/c=123 then .ok (c,t)else if c=125\/c=124 then .error (11,t)else .error (10,t)
def Zjx (xs:List Int)(most:Int)(p:Int):Res (Int×Int):=bnd (Zcj xs p) fun f t=>if f>1 then .error (10,t)else bnd (Zh5 xs most t) fun n t=>if f=1 then bnd (nmT xs t) fun x t=> .ok ((n,x),t)else .ok ((n, -1),t)
def Zea (xs:List Int)(p:Int):Res (List Ins):=if(ZbG xs p).2.2≠0 then .error ((ZbG xs p).2.2,p)else .ok ((ZbG xs p).1,(ZbG xs p).2.1)
def Zda {α:Type}(one:Int->Res α):Nat->Int->Res (List α)
 |0,p=> .ok ([],p)
 |n+1,p=>bnd (one p) fun a t=>bnd (Zda one n t) fun l t=> .ok (a::l,t)
def Z3 {α:Type}(xs:List Int)(most:Int)(one:Int->Res α)(p:Int):Res (List α):=bnd (Zh5 xs most p) fun n t=>Zda one n.toNat t
def ZaT (c:Prop)[Decidable c]{α:Type}(x:Int->Res α)(t:Int):Res α:=if c then x t else .error (10,t)
structure Zig where
 i:List Int
 o:List Int
 deriving DecidableEq
structure Zjy where
 m:List UInt8
 n:List UInt8
 t:Int
 deriving DecidableEq
structure ZdV where
 t:Int
 mu:Bool
 c:List Ins
 deriving DecidableEq
structure Zjz where
 n:List UInt8
 k:Int
 i:Int
 deriving DecidableEq
structure ZcS where
 c:List Ins
 f:List Int
 deriving DecidableEq
structure Zb8 where
 l:List Int
 c:List Ins
 deriving DecidableEq
structure ZbS where
 c:List Ins
 b:List Int
 deriving DecidableEq
structure Mod where
 types:List Zig
 imports:List Zjy
 funcs:List Int
 tables:List (Int×Int)
 mems:List (Int×Int)
 globals:List ZdV
 exports:List Zjz
 start:Int
 elems:List ZcS
 codes:List Zb8
 datas:List ZbS
 deriving DecidableEq
def Zqw (xs:List Int)(p:Int):Res Zig:=bnd (Zcj xs p) fun c t=>ZaT (c=96) (fun t=>bnd (Z3 xs 32 (ZcR xs) t) fun i t=>bnd (Z3 xs 32 (ZcR xs) t) fun o t=> .ok (⟨i,o⟩,t)) t
def Zqx (xs:List Int)(p:Int):Res Zjy:=bnd (Ze3 xs p) fun m t=>bnd (Ze3 xs t) fun n t=>bnd (Zcj xs t) fun c t=>ZaT (c=0) (fun t=>bnd (nmT xs t) fun i t=> .ok (⟨m,n,i⟩,t)) t
def ZoO (xs:List Int)(p:Int):Res (Int×Int):=bnd (Zcj xs p) fun c t=>ZaT (c=112) (Zjx xs 1024) t
def Zg1 (xs:List Int)(p:Int):Res ZdV:=bnd (ZcR xs p) fun k t=>bnd (Zcj xs t) fun c t=>ZaT (c<=1) (fun t=>bnd (Zea xs t) fun e t=> .ok (⟨k,c==1,e⟩,t)) t
def Zqy (xs:List Int)(p:Int):Res Zjz:=bnd (Ze3 xs p) fun n t=>bnd (Zcj xs t) fun c t=>ZaT (c<=3) (fun t=>bnd (nmT xs t) fun i t=> .ok (⟨n,c,i⟩,t)) t
def Zg2 (xs:List Int)(p:Int):Res ZcS:=bnd (nmT xs p) fun c t=>ZaT (c=0) (fun t=>bnd (Zea xs t) fun e t=>bnd (Z3 xs 1024 (nmT xs) t) fun f t=> .ok (⟨e,f⟩,t)) t
def Zg3 (xs:List Int)(p:Int):Res ZbS:=bnd (nmT xs p) fun c t=>ZaT (c=0) (fun t=>bnd (Zea xs t) fun e t=>bnd (Zdp xs t) fun b t=> .ok (⟨e,b⟩,t)) t
def ZfZ (xs:List Int):Nat->List Int->Int->Res (List Int)
 |0,l,p=> .ok (l,p)
 |n+1,l,p=>bnd (Zh5 xs (512-l.length) p) fun k t=>bnd (ZcR xs t) fun c t=>ZfZ xs n (l++List.replicate k.toNat c) t
def Zlk (xs:List Int)(p:Int):Res Zb8:=bnd (nmT xs p) fun n t=>bnd (ZfZ xs n.toNat [] t) fun l t=>bnd (Zea xs t) fun c t=>ZaT (t=xs.length) (fun t=> .ok (⟨l,c⟩,t)) t
def inT {α:Type}(xs:List Int)(f:List Int->Int->Res α)(s t:Int):Res α:=match f (xs.take t.toNat) s with
 |.ok (a,_)=> .ok (a,t)
 |.error (e,_)=> .error (e,t)
def Zg4 (xs:List Int)(p:Int):Res Zb8:=bnd (Zg0 xs p) (inT xs Zlk)
def Znj (xs:List Int)(id:Int)(m:Mod)(p:Int):Res Mod:=
 if id=1 then bnd (Z3 xs 256 (Zqw xs) p) fun l t=> .ok ({ m with types:=l },t)
 else if id=2 then bnd (Z3 xs 512 (Zqx xs) p) fun l t=> .ok ({ m with imports:=l },t)
 else if id=3 then bnd (Z3 xs 512 (nmT xs) p) fun l t=> .ok ({ m with funcs:=l },t)
 else if id=4 then bnd (Z3 xs 512 (ZoO xs) p) fun l t=> .ok ({ m with tables:=l },t)
 else if id=5 then bnd (Z3 xs 512 (Zjx xs 16) p) fun l t=> .ok ({ m with mems:=l },t)
 else if id=6 then bnd (Z3 xs 512 (Zg1 xs) p) fun l t=> .ok ({ m with globals:=l },t)
 else if id=7 then bnd (Z3 xs 512 (Zqy xs) p) fun l t=> .ok ({ m with exports:=l },t)
 else if id=8 then bnd (nmT xs p) fun l t=> .ok ({ m with start:=l },t)
 else if id=9 then bnd (Z3 xs 512 (Zg2 xs) p) fun l t=> .ok ({ m with elems:=l },t)
 else if id=10 then bnd (Z3 xs 512 (Zg4 xs) p) fun l t=> .ok ({ m with codes:=l },t)
 else if id=11 then bnd (Z3 xs 512 (Zg3 xs) p) fun l t=> .ok ({ m with datas:=l },t)
 else .ok (m,p)
def Zll (xs:List Int){α:Type}(a:α)(t:Int):Res α:=ZaT (t=xs.length) (fun t=> .ok (a,t)) t
def Zz6 (xs:List Int)(last:Int)(m:Mod)(p:Int):Res (Int×Mod):=
 bnd (Zcj xs p) fun id t=>bnd (Zg0 xs t) fun s t=>
  if id=0 then inT xs (fun ys p=>bnd (Ze3 ys p) fun _ t=> .ok ((last,m),t)) s t
  else inT xs (fun ys p=>ZaT (id>last/\id<=11) (fun p=>bnd (Znj ys id m p) fun m t=>Zll ys (id,m) t) p) s t
def Zf0 (xs:List Int):Nat->Int->Mod->Int->Res Mod
 |0,_,m,p=> .ok (m,p)
 |n+1,last,m,p=>if p<xs.length then bnd (Zz6 xs last m p) fun x t=>Zf0 xs n x.1 x.2 t else .ok (m,p)
def Zih (xs:List Int):List Int->Int->Res Unit
 |[],p=> .ok ((),p)
 |c::l,p=>bnd (Zcj xs p) fun x t=>ZaT (x=c) (Zih xs l) t
def ZnR:Mod:=⟨[],[],[],[],[],[],[],0,[],[],[]⟩
def Zu9 (xs:List Int):Res Mod:=
 bnd (Zih xs [0,97,115,109,1,0,0,0] 0) fun _ t=>bnd (Zf0 xs xs.length 0 { ZnR with start:= -1 } t) fun m t=>ZaT (m.codes.length=m.funcs.length) (fun t=> .ok (m,t)) t
def Zkx (xs:List Int):Mod×Int:=if xs.length>16384 then(ZnR,4)else match Zu9 xs with
 |.ok (m,_)=>(m,0)
 |.error (e,_)=>(ZnR,e)
end Go.Proofs.YtimhmpdfioihlaaGreatDoor
namespace Go.Proofs.YtimhmpdfioihlaaGreatDoor
set_option maxRecDepth 20000
open Go Go.Abs Nat
attribute [local irreducible] AW AWL AC FW CW CWr IntKind.wrap
section
def Zgt:Ins:=⟨0,0,0,0,0,[]⟩
theorem ZrK (l:List Ins)(k:Nat):List.drop (k*6) (Zap l)=Zap (l.drop k):=by
 induction l generalizing k with
 |nil=>simp[Zap]
 |cons i l ih=>
  cases k with
  |zero=>rfl
  |succ k=>
   have:Zap (i::l)=ZgV i++Zap l:=rfl
   rw[this,List.drop_succ_cons,<- ih k,show(k+1)*6=(ZgV i).length+k*6 by show _=6+_;omega,List.drop_append,Ya7 (by omega),List.nil_append,Nat.add_sub_cancel_left]
theorem Zqz (l:List Ins){k:Nat}(h:k<l.length):List.drop (k*6) (Zap l)=ZgV (l.getD k Zgt)++Zap (l.drop (k+1)):=by
 rw[ZrK]
 have e:l.drop k=l.getD k Zgt::l.drop (k+1):=by
  rw[List.drop_eq_getElem_cons h,Yah,Yab h];rfl
 rw[e];rfl
theorem ZfJ (l:List Ins){k:Nat}(h:k<l.length):List.take 6 (List.drop (k*6) (Zap l))=ZgV (l.getD k Zgt):=by rw[Zqz l h];rfl
theorem ZfK (l:List Ins){k:Nat}(h:k<l.length):6<=(List.drop (k*6) (Zap l)).length:=by rw[Zqz l h,Yal];show 6<=6+_;omega
def T5s (i1 i2:Ins)(k:Nat):St:={ n:=66,slots:=[(2,.ptr 2 0),(3,.ptr 3 0),(5,.int .i64 (k:Int))],mem:=[(2,⟨false,[.int .i64 i1.op,.int .i64 i1.a,.int .i64 i1.b,.int .u64 i1.lo,.int .u64 i1.hi,.view i1.l.length 1 (Zi .i64 i1.l)]⟩),(3,⟨false,[.int .i64 i2.op,.int .i64 i2.a,.int .i64 i2.b,.int .u64 i2.lo,.int .u64 i2.hi,.view i2.l.length 1 (Zi .i64 i2.l)]⟩)] }
def T5c (a b:List Ins)(k:Nat):St:={ n:=27,slots:=[(0,.view a.length 6 (Zap a)),(1,.view b.length 6 (Zap b)),(5,.int .i64 (k:Int))],mem:=[] }
theorem Znk {α:Type}{a b:List α}(d:α){k:Nat}(ha:k<a.length)(hb:k<b.length)(h:a.take k=b.take k)(he:a.getD k d=b.getD k d):a.take (k+1)=b.take (k+1):=by
 rw[List.take_add_one,List.take_add_one,h,Yab ha,Yab hb]
 rw[Yah,Yah,Yab ha,Yab hb]at he
 simp only[Option.getD_some]at he
 rw[he]
theorem ZC5.NM:type_of% @MB.NM/\type_of% @T5s.eq_1/\type_of% @T5c.eq_1:=
 ⟨MB.NM,@T5s.eq_1,@T5c.eq_1⟩
open ZC5
theorem ZAZ.cl {p:Prop}(h:p:=by
 first
  |refine AWL.frzG rfl rfl rfl ?_
  |refine AWL.cC (f:=104) ZFp rfl rfl rfl rfl rfl rfl (hsi) ?_
 all_goals(apply_rules (newGoals:= .nonDependentOnly) only[dep];exact())):p:=h
open Zuu ZoA ZdR in
theorem Zyx (i1 i2:Ins)(h1:i1.l.length<=1000000000000)(h2:i2.l.length<=1000000000000):AC Tryz.prog 104 [.fagg (ZgV i1),.fagg (ZgV i2)] (fun v m=>v= .bool (decide (i1=i2))/\m=[]):=by
 unfold ZgV
 refine AC.enter Tryz.func104 rfl (Yaa rfl) ?_
 simp only[Tryz.f104]
 by_cases hh:i1.op=i2.op/\i1.a=i2.a/\i1.b=i2.b/\i1.lo=i2.lo/\i1.hi=i2.hi/\i1.l.length=i2.l.length
 ·obtain⟨e1,e2,e3,e4,e5,e6⟩:=hh
  have nx:=trivial
  refine' ZgT
  refine AW.loop [2,3,5] [2,3] (fun m st=> ∃k:Nat,st=T5s i1 i2 k/\k<=i1.l.length/\i1.l.take k=i2.l.take k/\m=i1.l.length-k) ?_ ?_
  ·exact⟨_,0,rfl,Nat.zero_le _,rfl,rfl⟩
  rintro m st ⟨k,rfl,hk,ht,rfl⟩
  by_cases hkl:k<i1.l.length
  ·have e7:IntKind.i64.wrap ((k:Int)+1)=((k+1:Nat):Int):=Zc _ (by omega) (by omega)
   have hd1:decide ((k:Int)<(i1.l.length:Int))=true:=Yae (by omega)
   by_cases he:i1.l.getD k 0=i2.l.getD k 0
   ·have htn:=Znk (0:Int) hkl (by omega) ht he
    have nx:=aI @e7 (aI @hd1 trivial)
    refine' ZgT
    all_goals first
     |exact⟨i1.l.length-(k+1),by omega,k+1,rfl,by omega,htn,rfl⟩
   ·have hne:decide (i1=i2)=false:=Yaf (fun h=>he (by rw[h]))
    have nx:=aI @e7 (aI @hd1 trivial)
    refine' ZgT
    all_goals first|exact⟨trivial,trivial⟩|exact⟨rfl,trivial⟩|exact⟨rfl,rfl⟩|exact⟨trivial,rfl⟩|(rw[hne];exact⟨rfl,trivial⟩)|(exfalso;omega)|trace_state
  ·have hk2:k=i1.l.length:=by omega
   have hd1:decide ((k:Int)<(i1.l.length:Int))=false:=Yaf (by omega)
   rw[hk2,Yau,e6,Yau]at ht
   have hye:decide (i1=i2)=true:=Yae (by cases i1;cases i2;simp only at *;subst e1 e2 e3 e4 e5 ht;rfl)
   have nx:=aI @hd1 trivial
   refine' ZgT
   all_goals first|exact⟨trivial,trivial⟩|exact⟨rfl,trivial⟩|exact⟨rfl,rfl⟩|exact⟨trivial,rfl⟩|(rw[hye];exact⟨rfl,trivial⟩)|(exfalso;omega)|trace_state
 ·have hne:decide (i1=i2)=false:=Yaf (fun h=>hh (by rw[h];exact⟨rfl,rfl,rfl,rfl,rfl,rfl⟩))
  have nx:=trivial
  refine' ZgT
  all_goals first|exact⟨trivial,trivial⟩|exact⟨rfl,trivial⟩|exact⟨rfl,rfl⟩|exact⟨trivial,rfl⟩|(rw[hne];exact⟨rfl,trivial⟩)|(exfalso;omega)|trace_state
open ZAZ ZhJ ZdR in
theorem ZA0 (a b:List Ins)(ha:a.length<=1000000000000)(hb:b.length<=1000000000000)(hla: ∀i∈a,i.l.length<=1000000000000)(hlb: ∀i∈b,i.l.length<=1000000000000):AC Tryz.prog 58 [.view a.length 6 (Zap a),.view b.length 6 (Zap b)] (fun v m=>v= .bool (decide (a=b))/\m=[]):=by
 have hsi:True:=trivial
 refine AC.enter Tryz.func58 rfl (Yaa rfl) ?_
 simp only[Tryz.f58]
 by_cases hl:a.length=b.length
 ·have nx:=trivial
  refine' ZgP
  refine AW.loop [0,1,5] [] (fun m st=> ∃k:Nat,st=T5c a b k/\k<=a.length/\a.take k=b.take k/\m=a.length-k) ?_ ?_
  ·exact⟨_,0,rfl,Nat.zero_le _,rfl,rfl⟩
  rintro m st ⟨k,rfl,hk,ht,rfl⟩
  by_cases hkl:k<a.length
  ·have e7:IntKind.i64.wrap ((k:Int)+1)=((k+1:Nat):Int):=Zc _ (by omega) (by omega)
   have hd1:decide ((k:Int)<(a.length:Int))=true:=Yae (by omega)
   have l1:=ZfJ a hkl
   have l2:=ZfJ b (k:=k) (by omega)
   have r1:=ZfK a hkl
   have r2:=ZfK b (k:=k) (by omega)
   have m1:=hla (a.getD k Zgt) (by rw[Yah,Yab hkl];exact List.getElem_mem _)
   have m2:=hlb (b.getD k Zgt) (by rw[Yah,Yab (show k<b.length by omega)];exact List.getElem_mem _)
   have hsi:=Zyx _ _ m1 m2
   by_cases he:a.getD k Zgt=b.getD k Zgt
   ·have htn:=Znk Zgt hkl (by omega) ht he
    rw[Yae he]at hsi
    have nx:=aI @e7 (aI @hd1 (aI @l1 (aI @l2 trivial)))
    refine' ZgP
    all_goals first
     |exact⟨a.length-(k+1),by omega,k+1,rfl,by omega,htn,rfl⟩
   ·have hne:decide (a=b)=false:=Yaf (fun h=>he (by rw[h]))
    rw[Yaf he]at hsi
    have nx:=aI @e7 (aI @hd1 (aI @l1 (aI @l2 trivial)))
    refine' ZgP
    all_goals first|exact⟨trivial,trivial⟩|exact⟨rfl,trivial⟩|exact⟨rfl,rfl⟩|exact⟨trivial,rfl⟩|(rw[hne];exact⟨rfl,trivial⟩)|(exfalso;omega)|trace_state
  ·have hk2:k=a.length:=by omega
   have hd1:decide ((k:Int)<(a.length:Int))=false:=Yaf (by omega)
   rw[hk2,Yau,hl,Yau]at ht
   have hye:decide (a=b)=true:=Yae ht
   have nx:=aI @hd1 trivial
   refine' ZgP
   all_goals first|exact⟨trivial,trivial⟩|exact⟨rfl,trivial⟩|exact⟨rfl,rfl⟩|exact⟨trivial,rfl⟩|(rw[hye];exact⟨rfl,trivial⟩)|(exfalso;omega)|trace_state
 ·have hne:decide (a=b)=false:=Yaf (fun h=>hl (by rw[h]))
  have nx:=trivial
  refine' ZgP
  all_goals first|exact⟨trivial,trivial⟩|exact⟨rfl,trivial⟩|exact⟨rfl,rfl⟩|exact⟨trivial,rfl⟩|(rw[hne];exact⟨rfl,trivial⟩)|(exfalso;omega)|trace_state
end
section
theorem Fk.view {n sz:Nat}{cs' cs:List V}(h:FkL cs' cs):Fk (.view n sz cs') (.view n sz cs):=⟨fun S w u hv=>by
 cases hv with
 |view _ _ _ A c us hl hc ha hr h1=>
  refine .view n sz cs A c us (by rw[<- h.length];exact hl) hc (fun hne=> ?_) (fun j v hj=> ?_) (fun j v hj=> ?_)
  ·obtain⟨b,o,e1,e2,e3⟩:=ha (fun e=>hne (Yay (by rw[<- h.length,e];rfl)))
   exact⟨b,o,e1,e2,fun j v hj=>by
     obtain⟨v',hv',_⟩:=h.at hj
     exact e3 j v' hv'⟩
  ·obtain⟨v',hv',hk⟩:=h.at hj
   exact hk.1 S w _ (hr j v' hv')
  ·obtain⟨v',hv',hk⟩:=h.at hj
   rw[hk.2];exact h1 j v' hv',rfl⟩
open MB
open Zlg Zm in
theorem Zva:AC Tryz.prog 16 [] (fun r m=>r= .agg [.ref 2 0 1 2,.nils,.ref 3 0 1 1,.nils,.nils,.nils,.nils,.int .i64 (-1),.nils,.ref 7 0 1 2,.nils]/\m=[(2,[.nils,.nils]),(3,Zi .i64 [0]),(7,[.nils,.view 1 6 [.int .i64 11,.int .i64 0,.int .i64 0,.int .u64 0,.int .u64 0,.nils]])]):=by
 refine AC.enter Tryz.func16 rfl (Yaa rfl) ?_
 simp only[Tryz.f16]
 have nx:=trivial
 refine' ZxX
 all_goals first
  |exact⟨rfl,rfl⟩
theorem Zyy:AC Tryz.prog 16 [] (fun r m=>r= .agg [.view 1 2 [.view 0 1 [],.view 0 1 []],.view 0 3 [],.view 1 1 [.int .i64 0],.view 0 2 [],.view 0 2 [],.view 0 3 [],.view 0 3 [],.int .i64 (-1),.view 0 2 [],.view 1 2 [.view 0 1 [],.view 1 6 [.int .i64 11,.int .i64 0,.int .i64 0,.int .u64 0,.int .u64 0,.view 0 1 []]],.view 0 2 []]/\m=[]):=by
 refine Zva.out fun v m h=> ?_
 obtain⟨rfl,rfl⟩:=h
 refine⟨_,_,⟨rfl,rfl⟩,fun S w w' u ho=> ?_⟩
 have h2:=ho.frz.frz.frz
 have e:ZlU 7 [.nils,.view 1 6 [.int .i64 11,.int .i64 0,.int .i64 0,.int .u64 0,.int .u64 0,.nils]] (ZlU 3 (Zi .i64 [0]) (ZlU 2 [.nils,.nils] (.agg [.ref 2 0 1 2,.nils,.ref 3 0 1 1,.nils,.nils,.nils,.nils,.int .i64 (-1),.nils,.ref 7 0 1 2,.nils])))= .agg [.view 1 2 [.nils,.nils],.nils,.view 1 1 [.int .i64 0],.nils,.nils,.nils,.nils,.int .i64 (-1),.nils,.view 1 2 [.nils,.view 1 6 [.int .i64 11,.int .i64 0,.int .i64 0,.int .u64 0,.int .u64 0,.nils]],.nils]:=rfl
 rw[e]at h2
 refine h2.wk (Wk.agg ?_)
 exact .cons (Wk.view (.cons (Fk.nils 1) (.cons (Fk.nils 1) .nil))) (.cons (Wk.nils 3) (.cons (Wk.refl _) (.cons (Wk.nils 2) (.cons (Wk.nils 2) (.cons (Wk.nils 3) (.cons (Wk.nils 3) (.cons (Wk.refl _) (.cons (Wk.nils 2) (.cons (Wk.view (.cons (Fk.nils 1) (.cons (Fk.view (.cons (Fk.refl _) (.cons (Fk.refl _) (.cons (Fk.refl _) (.cons (Fk.refl _) (.cons (Fk.refl _) (.cons (Fk.nils 1) .nil)))))))  .nil))) (.cons (Wk.nils 2) .nil))))))))))
end
section
def tpM (k:Nat)(b:List Int)(p:Int)(en:Nat):Mem:=[(k,⟨false,[.view b.length 1 (Zi .u8 b),.int .i64 p,.int .i64 en]⟩)]
def Zyz (e:Int):List PanicEntry:=[{ v:= .iface 96 (.agg #[.int .i64 e]),recovered:=false }]
def OKR {α:Type}(x:Res α)(enc:α->V)(b:List Int)(en:Nat)(v:V)(m:Mem):Prop:=match x with
 |.ok (a,t)=>v=enc a/\m=tpM 0 b t en
 |.error _=>False
def ERR {α:Type}(x:Res α)(b:List Int)(en:Nat)(ch:List PanicEntry)(m:Mem):Prop:=match x with
 |.ok _=>False
 |.error (e,t)=>ch=Zyz e/\m=tpM 0 b t en
def TF {α:Type}(f:FuncId)(args:List V)(b:List Int)(en:Nat)(p:Int)(x:Res α)(enc:α->V):Prop:=AMP Tryz.prog f (.ptr 0 0::args) (tpM 0 b p en) [0] (OKR x enc b en) (ERR x b en)
structure okT (b:List Int)(p:Int)(en:Nat):Prop where
 hb:bytes b
 hl:b.length<=100000000
 he:en<=b.length
 p0:0<=p
 p1:p<=en
theorem okT.len {b:List Int}{p:Int}{en:Nat}(h:okT b p en):(b.take en).length=en:=by rw[Yar];have:=h.he;omega
theorem okT.byt {b:List Int}{p:Int}{en:Nat}(h:okT b p en):bytes (b.take en):=fun x hx=>h.hb x (List.mem_of_mem_take hx)
theorem okT.mv {b:List Int}{p t:Int}{en:Nat}(h:okT b p en)(h1:p<=t)(h2:t<=en):okT b t en:=⟨h.hb,h.hl,h.he,Int.le_trans h.p0 h1,h2⟩
open MB
open Zlg ZoA Zm in
theorem Zdq (e:Int):AMP Tryz.prog 74 [.int .i64 e] [] [] (fun _ _=>False) (fun ch m=>ch=Zyz e/\m=[]):=by
 refine AMP.enter Tryz.func74 rfl (Yaa rfl) (fun pn=> ?_)
 simp only[Tryz.f74]
 have nx:=trivial
 refine' Zx5
 all_goals first|exact⟨trivial,trivial⟩|exact⟨rfl,trivial⟩|exact⟨rfl,rfl⟩|exact⟨trivial,rfl⟩|(exfalso;omega)|trace_state
end
end Go.Proofs.YtimhmpdfioihlaaGreatDoor
