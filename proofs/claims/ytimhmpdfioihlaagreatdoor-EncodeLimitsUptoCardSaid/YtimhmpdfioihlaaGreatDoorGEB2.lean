/- The writer of a module, in plain. -/
import Derived.Test.YtimhmpdfioihlaaGreatDoorGV6
import Derived.Test.YtimhmpdfioihlaaGreatDoorGMMv
import Derived.Test.YtimhmpdfioihlaaGreatDoorGLook
import Derived.Test.YtimhmpdfioihlaaGreatDoorGENSElem
import Derived.Test.YtimhmpdfioihlaaGreatDoorGENCi
import Derived.Test.YtimhmpdfioihlaaGreatDoorGEB
set_option linter.unusedSimpArgs false
set_option linter.unusedVariables false
namespace Go.Proofs.YtimhmpdfioihlaaGreatDoor
set_option maxRecDepth 20000
open Go Go.Abs
def Zcr:List Int:=[0,97,115,109,1,0,0,0]
def Zef (s:Int)(o:Ow):Ow:=if s>=0 then Zf1 8 (Z9 [s] ⟨[],false⟩) o else o
def ZfR (m:Mod):Ow:=
 Zbk Zhd 11 512 m.datas<|Zbk Ze4 10 512 m.codes<|Zbk Zhe 9 512 m.elems<|Zef m.start<|Zy (decide (m.start >= -1)) <|
 Zbk ZqL 7 512 m.exports<|Zbk Zhf 6 512 m.globals<|Zbk Zr1 5 512 m.mems<|Zbk ZqW 4 512 m.tables<|Zbk ZoX 3 512 m.funcs <|
 Zbk ZqP 2 512 m.imports<|Zbk ZqN 1 256 m.types<|Zy ((m.funcs.length:Int)==(m.codes.length:Int)) ⟨Zcr,false⟩
def ZdI (m:Mod):List Int×Int:=if(ZfR m).bad=true then([],1)else if(ZfR m).b.length>16384 then([],4)else((ZfR m).b,0)
theorem Zq3 (id:Int)(p o:Ow):(Zf1 id p o).b.length<=o.b.length+p.b.length+11:=by
 unfold Zf1
 rw[Z7]
 have l1:=Zq [(p.b.length:Int)] (Z6 [id] (Zy (!p.bad) o))
 rw[Z7,ZaE]at l1
 simp only[List.length_singleton]at l1
 omega
theorem ZcL {α:Type}{f:α->Ow->Ow}{sz:α->Nat}(h: ∀x p,(f x p).b.length<=p.b.length+sz x)(id most:Int)(l:List α)(o:Ow):(Zbk f id most l o).b.length<=o.b.length+(Zaa sz l+21):=by
 unfold Zbk
 split
 ·rw[ZaE];omega
 ·refine Nat.le_trans (Zq3 _ _ _) ?_
  rw[ZaE]
  have h1:=Zco h l (Z9 [(l.length:Int)] ⟨[],(Zy (decide ((l.length:Int)<=most)) o).bad⟩)
  have h2:=Zq [(l.length:Int)] ⟨[],(Zy (decide ((l.length:Int)<=most)) o).bad⟩
  simp only[List.length_singleton,List.length_nil]at h2
  omega
theorem ZnD: ∀(f:Nat) (l:List Int) (q:Ow),(Zft f l q).b.length<=q.b.length+11*l.length
 |0,_,_=>by simp only[Zft];omega
 |f+1,[],q=>by simp only[Zft];omega
 |f+1,x::l,q=>by
  simp only[Zft]
  refine Nat.le_trans (ZnD f _ _) ?_
  rw[Zb6]
  have h1:=Zq [((Zz x l+1:Nat):Int)] q
  simp only[Yag,List.length_nil,Yaw]at h1 ⊢
  omega
theorem ZnE (x:Zb8)(o:Ow):(Ze4 x o).b.length<=o.b.length+((Zw x.c).1.length+11*x.l.length+100):=by
 unfold Ze4
 rw[Z7]
 have l1:=ZnD x.l.length x.l (Z9 [(Zf8 x.l x.l.length:Int)] ⟨[],false⟩)
 have l0:=Zq [(Zf8 x.l x.l.length:Int)] ⟨[],false⟩
 simp only[List.length_singleton,List.length_nil]at l0
 have l2:=ZcV x.c (Zft x.l.length x.l (Z9 [(Zf8 x.l x.l.length:Int)] ⟨[],false⟩))
 generalize ZeQ x.c (Zft x.l.length x.l (Z9 [(Zf8 x.l x.l.length:Int)] ⟨[],false⟩))=q at l2 ⊢
 have l3:=Zq [(q.b.length:Int)] (Zy (!q.bad) (Zy (decide ((x.l.length:Int)<=512)) o))
 rw[ZaE,ZaE]at l3
 simp only[List.length_singleton]at l3
 omega
def Zgx (x:Zig):Nat:=x.i.length+x.o.length+60
def ZhT (x:Zjy):Nat:=x.m.length+x.n.length+100
def Zj1 (_:Int):Nat:=10
def Zhi (_:Int×Int):Nat:=60
def Zf9 (x:ZdV):Nat:=(Zw x.c).1.length+100
def ZhU (x:Zjz):Nat:=x.n.length+100
def Zdw (x:ZcS):Nat:=(Zw x.c).1.length+10*x.f.length+60
def Zdx (x:Zb8):Nat:=(Zw x.c).1.length+11*x.l.length+100
def ZdJ (x:ZbS):Nat:=(Zw x.c).1.length+x.b.length+60
def szM (m:Mod):Nat:=Zaa Zgx m.types+Zaa ZhT m.imports+Zaa Zj1 m.funcs+Zaa Zhi m.tables+Zaa Zhi m.mems+Zaa Zf9 m.globals+Zaa ZhU m.exports+Zaa Zdw m.elems+Zaa Zdx m.codes+Zaa ZdJ m.datas
def Zhk:Nat->List Int->Nat
 |0,_=>0
 |_+1,[]=>0
 |f+1,x::l=>Zhk f (l.drop (Zz x l))+1
def Zsb:Int->List Int->Nat
 |_,[]=>0
 |x,y::l=>(if y≠x then 1 else 0)+Zsb y l
theorem ZnF: ∀(a:List Int) (x b:Int),Zsb x (a++[b])=Zsb x a+(if b≠(x::a).getD a.length 0 then 1 else 0)
 |[],x,b=>by simp[Zsb]
 |y::a,x,b=>by
  rw[List.cons_append,Zsb,ZnF a y b,Zsb]
  simp only[Yag,List.getD_cons_succ]
  omega
theorem ZnG (x:Int)(l:List Int): ∀k,k<=l.length->Zf8 (x::l) (k+1)=1+Zsb x (l.take k)
 |0,_=>by simp[Zf8,Zsb]
 |k+1,h=>by
  have hk:k<l.length:=h
  have ih:=ZnG x l k (by omega)
  have e:l.take (k+1)=l.take k++[l.getD k 0]:=by
    rw[List.take_add_one,Yab hk,Yah,Yab hk];rfl
  have hlen:(l.take k).length=k:=by rw[Yar];omega
  have e2:(x::l.take k).getD k 0=(x::l).getD k 0:=by
    rw[show x::l.take k=(x::l).take (k+1)from rfl,Yah,Yah,List.getElem?_take_of_lt (by omega)]
  rw[Zf8,ih,e,ZnF,hlen,e2]
  simp only[List.getD_cons_succ,Nat.add_sub_cancel,Nat.add_eq_zero_iff,Nat.one_ne_zero,and_false,false_or,Nat.succ_ne_zero]
  omega
theorem Zq4 (x:Int): ∀l:List Int,Zsb x l=Zsb x (l.drop (Zz x l))/\(l.drop (Zz x l)=[]\/ ∃y r,l.drop (Zz x l)=y::r/\y≠x)
 |[]=>⟨rfl,.inl rfl⟩
 |y::l=>by
  by_cases h:y=x
  ·subst h
   have ih:=Zq4 y l
   have e:(y::l).drop (Zz y (y::l))=l.drop (Zz y l):=by rw[Zz,if_pos rfl,List.drop_succ_cons]
   rw[e]
   refine⟨?_,ih.2⟩
   rw[Zsb,if_neg (fun h=>h rfl),Nat.zero_add];exact ih.1
  ·have e:(y::l).drop (Zz x (y::l))=y::l:=by rw[Zz,if_neg h];rfl
   rw[e]
   exact⟨rfl,.inr ⟨y,l,rfl,h⟩⟩
theorem ZnH: ∀(f:Nat) (l:List Int) (x:Int),l.length<=f->Zsb x l=Zhk f (l.drop (Zz x l))
 |0,l,x,h=>by rw[Yay (Nat.le_zero.1 h)];rfl
 |f+1,l,x,h=>by
  obtain⟨h1,h2⟩:=Zq4 x l
  have hle:=Zee x l
  rw[h1]
  rcases h2 with h2|⟨y,r,h2,h3⟩
  ·rw[h2];rfl
  ·have hlen:=congrArg List.length h2
   rw[Yaw,Yag]at hlen
   rw[h2,Zsb,if_pos h3,Zhk,ZnH f r y (by omega),Nat.add_comm]
theorem Zfu (l:List Int):Zf8 l l.length=Zhk l.length l:=by
 cases l with
 |nil=>rfl
 |cons x l=>
  rw[Yag,ZnG x l l.length (Nat.le_refl _),Yau,Zhk,ZnH l.length l x (Nat.le_refl _),Nat.add_comm]
def ZjU:Nat->List Int->List Int
 |0,_=>[]
 |_+1,[]=>[]
 |f+1,x::l=>uB ((Zz x l+1:Nat):Int)++([IntKind.u8.wrap x]++ZjU f (l.drop (Zz x l)))
def ZAl:Nat->List Int->Bool
 |0,_=>true
 |_+1,[]=>true
 |f+1,x::l=>Zaf ((Zz x l+1:Nat):Int)&&(ZbT x&&ZAl f (l.drop (Zz x l)))
theorem Zwa: ∀(f:Nat) (l:List Int),Ap (Zft f l) (ZjU f l) (ZAl f l)
 |0,_=>Zsa
 |_+1,[]=>Zsa
 |f+1,x::l=>by
  refine Ap.cast (((ZaX _).comp (Zo7 x)).comp (Zwa f (l.drop (Zz x l)))) ?_ ?_
  ·rw[ZjU,Ya6]
  ·rw[ZAl,Bool.and_assoc]
theorem Zq5 (x:Int): ∀l:List Int,l=List.replicate (Zz x l) x++l.drop (Zz x l)
 |[]=>rfl
 |y::l=>by
  by_cases h:y=x
  ·subst h
   rw[Zz,if_pos rfl,List.replicate_succ,List.drop_succ_cons,List.cons_append,<- Zq5 y l]
  ·rw[Zz,if_neg h];rfl
theorem ZBG (f:Nat): ∀(l a:List Int),l.length<=f->a.length+l.length<=512->ZAl f l=true->RdB (fun xs p=>ZfZ xs (Zhk f l) a p) (ZjU f l) (a++l):=by
 induction f with
 |zero=>
  intro l a h _ _
  rw[Yay (Nat.le_zero.1 h),List.append_nil]
  intro xs p _ _;rfl
 |succ f ihf=>
  intro l a h h5 hk
  cases l with
  |nil=>rw[List.append_nil];intro xs p _ _;rfl
  |cons x l=>
   rw[ZAl]at hk
   simp only[Yao]at hk
   obtain⟨h1,h2,h3⟩:=hk
   have hle:=Zee x l
   rw[Yag]at h h5
   have hd:(l.drop (Zz x l)).length=l.length-Zz x l:=Yaw
   have ih:=ihf (l.drop (Zz x l)) (a++List.replicate (Zz x l+1) x) (by omega) (by rw[Yal,List.length_replicate];omega) h3
   have e:a++List.replicate (Zz x l+1) x++l.drop (Zz x l)=a++x::l:=by
      rw[Ya6,List.replicate_succ,List.cons_append,<- Zq5 x l]
   rw[e]at ih
   intro xs p hb ha
   show ZfZ xs (Zhk f (l.drop (Zz x l))+1) a p=_
   rw[ZfZ]
   rw[ZjU]at ha ⊢
   refine(ZqZ (n:=((Zz x l+1:Nat):Int)) (most:=512-a.length) h1 (by omega)).bnd (T2:=fun k xs t=>bnd (ZcR xs t) fun c t=>ZfZ xs (Zhk f (l.drop (Zz x l))) (a++List.replicate k.toNat c) t) ((Zo6 h2).bnd (T2:=fun c xs t=>ZfZ xs (Zhk f (l.drop (Zz x l))) (a++List.replicate (((Zz x l+1:Nat):Int)).toNat c) t) ?_) xs p hb ha
   rw[Yap]
   exact ih
def Zhl (x:Zb8):List Int:=uB (Zf8 x.l x.l.length:Int)++(ZjU x.l.length x.l++(Zw x.c).1)
def ZAm (x:Zb8):Bool:=Zaf (Zf8 x.l x.l.length:Int)&&(ZAl x.l.length x.l&&(Zw x.c).2==0)
theorem Zwb (x:Zb8)(hi: ∀i∈x.c,ZbM i):Ap (Ze4 x) (uB ((Zhl x).length:Int)++Zhl x) (decide ((x.l.length:Int)<=512)&&(ZAm x&&Zaf ((Zhl x).length:Int))):=by
 have h:=((ZaX (Zf8 x.l x.l.length:Int)).comp (Zwa x.l.length x.l)).comp (Zgw hi)
 rw[Ya6,Bool.and_assoc]at h
 have hq1:=h.b ⟨[],false⟩
 have hq2:=h.bad ⟨[],false⟩
 simp only[List.nil_append,Bool.false_or]at hq1 hq2
 have hq1:(ZeQ x.c (Zft x.l.length x.l (Z9 [(Zf8 x.l x.l.length:Int)] ⟨[],false⟩))).b=Zhl x:=hq1
 have hq2:(ZeQ x.c (Zft x.l.length x.l (Z9 [(Zf8 x.l x.l.length:Int)] ⟨[],false⟩))).bad= !(ZAm x):=hq2
 have hby:bytes (Zhl x):=h.by_
 have:=(((ZcG (decide ((x.l.length:Int)<=512))).comp (ZcG (!(!(ZAm x))))).comp (ZaX ((Zhl x).length:Int))).comp (ZaW hby)
 refine Ap.cast (f:=Ze4 x) (B:=([]++[]++uB ((Zhl x).length:Int))++Zhl x) (K:=(decide ((x.l.length:Int)<=512)&& !(!(ZAm x))&&Zaf ((Zhl x).length:Int)&&true)) ?_ (by simp) (by simp[Bool.and_assoc])
 have e:Ze4 x=fun o=>Z6 (Zhl x) (Z9 [((Zhl x).length:Int)] (Zy (!(!(ZAm x))) (Zy (decide ((x.l.length:Int)<=512)) o))):=by
  funext o
  unfold Ze4
  rw[hq1,hq2]
 rw[e]
 exact this
theorem ZiF {l:List Int}(h:bytes l)(n:Nat):bytes (l.take n):=fun x hx=>h x (List.mem_of_mem_take hx)
theorem ZBH (x:Zb8)(hi: ∀i∈x.c,ZbM i):Wr (Ze4 x) Zg4 x:=by
 refine⟨_,_,Zwb x hi,fun hk=> ?_⟩
 simp only[Yao,Yaz]at hk
 obtain⟨h1,h2,h3⟩:=hk
 unfold ZAm at h2
 simp only[Yao,beq_iff_eq]at h2
 obtain⟨k1,k2,k3⟩:=h2
 obtain⟨l,c⟩:=x
 intro xs p hb ha
 unfold Zg4
 rw[Zo4 h3 hb ha,Zk]
 unfold inT
 rw[Yap]
 have hat:=ha.app.2.take (t:=p+(uB ((Zhl ⟨l,c⟩).length:Int)).length+(Zhl ⟨l,c⟩).length) (Nat.le_refl _)
 have hle:=ha.len
 rw[Yal]at hle
 have hlen:((xs.take (p+(uB ((Zhl ⟨l,c⟩).length:Int)).length+(Zhl ⟨l,c⟩).length)).length)=p+(uB ((Zhl ⟨l,c⟩).length:Int)).length+(Zhl ⟨l,c⟩).length:=by
  rw[Yar];omega
 have hb2:=ZiF hb (p+(uB ((Zhl ⟨l,c⟩).length:Int)).length+(Zhl ⟨l,c⟩).length)
 generalize xs.take (p+(uB ((Zhl ⟨l,c⟩).length:Int)).length+(Zhl ⟨l,c⟩).length)=ys at hat hlen hb2
 generalize hs:p+(uB ((Zhl ⟨l,c⟩).length:Int)).length=s at hat hlen
 rw[Yal,<- Nat.add_assoc,hs]
 have hr:Zlk ys (s:Int)= .ok (⟨l,c⟩,((s+(Zhl ⟨l,c⟩).length:Nat):Int)):=by
  unfold Zhl at hat hlen ⊢
  simp only at k1 k2 k3 h1 hi hat hlen ⊢
  obtain⟨a1,a2⟩:=hat.app
  obtain⟨a3,a4⟩:=a2.app
  unfold Zlk
  rw[ZjI k1 ys s hb2 a1,Zk,Yap,Zfu]
  have hrun:=ZBG l.length l [] (Nat.le_refl _) (by simp only[List.length_nil];omega) k2 ys _ hb2 a3
  rw[Zfu]at hrun
  simp only[List.nil_append]at hrun
  rw[hrun,Zk]
  have hex:=ZlH hi k3 ys _ hb2 a4
  rw[Zfu]at hex
  rw[hex,Zk]
  unfold ZaT
  rw[Yal,Yal]at hlen ⊢
  rw[Zfu]at hlen
  rw[if_pos (by omega)]
  have e9:s+(uB ((Zhk l.length l:Nat):Int)).length+(ZjU l.length l).length+(Zw c).1.length=s+((uB ((Zhk l.length l:Nat):Int)).length+((ZjU l.length l).length+(Zw c).1.length)):=by omega
  rw[e9]
 rw[hr]
end Go.Proofs.YtimhmpdfioihlaaGreatDoor
