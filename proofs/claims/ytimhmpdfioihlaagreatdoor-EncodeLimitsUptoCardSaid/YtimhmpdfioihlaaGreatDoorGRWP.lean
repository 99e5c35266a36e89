/- What is written of fields is read again. -/
import Derived.Test.YtimhmpdfioihlaaGreatDoorGV6
import Derived.Test.YtimhmpdfioihlaaGreatDoorGXSt
import Derived.Test.YtimhmpdfioihlaaGreatDoorRT4
set_option linter.unusedSimpArgs false
set_option linter.unusedVariables false
namespace Go.Proofs.YtimhmpdfioihlaaGreatDoor
set_option maxRecDepth 20000
open Go Go.Abs
theorem ZA9 {n:Int}(h:0<=n/\n<4294967296):i32 n%4294967296=n:=by
 unfold i32
 show(if(true&&decide (n%4294967296>=2147483648))=true then n%4294967296-4294967296 else n%4294967296)%4294967296=n
 split<;>omega
theorem ZBa {n:Int}(h:0<=n/\n<18446744073709551616):i64 n%18446744073709551616=n:=by
 unfold i64
 show(if(true&&decide (n%18446744073709551616>=9223372036854775808))=true then n%18446744073709551616-18446744073709551616 else n%18446744073709551616)%18446744073709551616=n
 split<;>omega
theorem Zvl {l h:Int}(hl:0<=l/\l<18446744073709551616)(hh:0<=h/\h<18446744073709551616):lo (join l h)=l/\hi (join l h)=h/\(join l h).length=16:=by
 unfold lo hi join
 have h8:(toB 8 l).length=8:=Zch 8 l
 refine⟨?_,?_,by rw[Yal,Zch,Zch]⟩
 ·rw[List.take_append_of_le_length (by omega),Yad (by omega),ZzY]
  exact Int.emod_eq_of_lt hl.1 hl.2
 ·rw[List.drop_append,Ya7 (by omega),List.nil_append,h8,Nat.sub_self,List.drop_zero,ZzY]
  exact Int.emod_eq_of_lt hh.1 hh.2
theorem Zfo (i:Ins){q:Int}(h:0<=q):Zgr i q=(i,q,0):=if_neg (by omega)
theorem Zls {b rest:List Int}{p:Nat}{n:Int}(hn:0<=n/\n<4294967296)(h:b.drop p=uB n++rest):Zbv b p=(n,(p:Int)+((uB n).length:Nat)):=by
 unfold Zbv;rw[if_pos (by omega)];exact Zg7 hn h
theorem Zcm {i:Ins}{o a b l h:Int}{ll:List Int}(h1:i.op=o)(h2:i.a=a)(h3:i.b=b)(h4:i.lo=l)(h5:i.hi=h)(h6:i.l=ll):(⟨o,a,b,l,h,ll⟩:Ins)=i:=by
 cases i;simp only at *;subst h1 h2 h3 h4 h5 h6;rfl
theorem Zcn {a b lo hi:Int}(h:zq4 a b lo hi=true):a=0/\b=0/\lo=0/\hi=0:=of_decide_eq_true h
theorem ZDh {b rest:List Int}{p:Nat}{i:Ins}(hi:ZbM i){form:Int}(hf:1<=form/\form<=14)(hr:ZdT i form=true)(hok:(Zif i form).2=true)(h:b.drop p=Zcl i form++rest)(hp:p<=b.length) :
 Zsl b p ⟨i.op,0,0,0,0,[]⟩ form=(i,(p:Int)+((Zcl i form).length:Nat),0):=by
 have hl0:form≠4->i.l=[]:=fun h4=>by
  unfold ZdT at hr
  by_cases hl:i.l.length>0
  ·rw[if_pos ⟨h4,hl⟩]at hr;cases hr
  ·exact Yay (by omega)
 have hcs:form=1\/form=2\/form=3\/form=4\/form=5\/form=6\/form=7\/form=8\/form=9\/form=10\/form=11\/form=12\/form=13\/form=14:=by omega
 rcases hcs with rfl|rfl|rfl|rfl|rfl|rfl|rfl|rfl|rfl|rfl|rfl|rfl|rfl|rfl
 all_goals
  unfold ZdT at hr
  unfold Zif at hok
  unfold Zcl at h ⊢
  unfold Zsl
  simp only[Int.reduceEq,↓reduceIte,or_false,or_true,true_or,false_or,or_self,ne_eq,not_true_eq_false,not_false_eq_true,false_and,true_and,and_true]at hr hok h ⊢
 ·have hl:=hl0 (by decide)
  rw[hl]at hr
  simp only[List.length_nil,gt_iff_lt,Nat.lt_irrefl,↓reduceIte]at hr
  obtain⟨e1,e2,e3,e4⟩:=Zcn hr
  simp only[List.length_nil,Yai,and_true]
  exact⟨Zcm rfl e1 e2 e3 e4 hl,by omega⟩
 ·have hl:=hl0 (by decide)
  rw[hl]at hr
  simp only[List.length_nil,gt_iff_lt,Nat.lt_irrefl,↓reduceIte]at hr
  obtain⟨_,e2,e3,e4⟩:=Zcn hr
  have hk:=ZDf (a:=i.a) (by
   by_cases hs:i.a= -64\/i.a= -1\/i.a= -2\/i.a= -5
   ·exact .inl hs
   ·rw[if_neg hs]at hok;exact .inr hok) h
  rw[hk]
  simp only[Yai,and_true]
  exact Zcm rfl rfl e2 e3 e4 hl
 ·have hl:=hl0 (by decide)
  rw[hl]at hr
  simp only[List.length_nil,gt_iff_lt,Nat.lt_irrefl,↓reduceIte]at hr
  obtain⟨_,e2,e3,e4⟩:=Zcn hr
  rw[Zg7 (of_decide_eq_true hok) h]
  rw[Zfo _ (by simp only;omega)]
  simp only[Yai,and_true]
  exact Zcm rfl rfl e2 e3 e4 hl
 ·obtain⟨_,e2,e3,e4⟩:=Zcn hr
  simp only[Yao]at hok
  rw[Ya6,Ya6]at h
  have hn:=hi.n
  have h0:0<=(i.l.length:Int)/\(i.l.length:Int)<4294967296:=by omega
  have hd:=Zdt h (Znp _)
  rw[Zg7 h0 h]
  simp only[Yap]
  have ht:=ZDg i.l (p+(uB (i.l.length:Int)).length) (uB i.a++rest) [] (Yat.1 hok.1) hd.2
  rw[show(p:Int)+((uB (i.l.length:Int)).length:Nat)=((p+(uB (i.l.length:Int)).length:Nat):Int)by omega,ht]
  have hd3:b.drop (p+(uB (i.l.length:Int)).length+(i.l.flatMap uB).length)=uB i.a++rest:=by rw[<- List.drop_drop,hd.2,List.drop_left]
  have ha:=Zls (of_decide_eq_true hok.2) hd3
  simp only
  rw[show((p+(uB (i.l.length:Int)).length:Nat):Int)+((i.l.flatMap uB).length:Nat)=((p+(uB (i.l.length:Int)).length+(i.l.flatMap uB).length:Nat):Int)by omega,ha]
  simp only
  rw[Zfo _ (by omega)]
  simp only[List.nil_append,Yal,Yai,and_true]
  exact⟨Zcm rfl rfl e2 e3 e4 rfl,by omega⟩
 ·have hl:=hl0 (by decide)
  rw[hl]at hr
  simp only[List.length_nil,gt_iff_lt,Nat.lt_irrefl,↓reduceIte]at hr
  obtain⟨_,e2,e3,e4⟩:=Zcn hr
  rw[Zg7 (of_decide_eq_true hok) h]
  rw[Zfo _ (by simp only;omega)]
  simp only[Yai,and_true]
  exact Zcm rfl rfl e2 e3 e4 hl
 ·have hl:=hl0 (by decide)
  rw[hl]at hr
  simp only[List.length_nil,gt_iff_lt,Nat.lt_irrefl,↓reduceIte]at hr
  obtain⟨_,_,e3,e4⟩:=Zcn hr
  simp only[Yao]at hok
  rw[Ya6]at h
  have hd:=Zdt h (Znp _)
  rw[Zg7 (of_decide_eq_true hok.1) h]
  simp only
  have hb:=Zls (of_decide_eq_true hok.2) hd.2
  rw[show(p:Int)+((uB i.a).length:Nat)=((p+(uB i.a).length:Nat):Int)by omega,hb]
  simp only
  rw[Zfo _ (by omega)]
  simp only[Yal,Yai,and_true]
  exact⟨Zcm rfl rfl rfl e3 e4 hl,by omega⟩
 ·have hl:=hl0 (by decide)
  rw[hl]at hr
  simp only[List.length_nil,gt_iff_lt,Nat.lt_irrefl,↓reduceIte]at hr
  obtain⟨_,_,e3,e4⟩:=Zcn hr
  simp only[Yao]at hok
  rw[Ya6]at h
  have hd:=Zdt h (Znp _)
  rw[Zg7 (of_decide_eq_true hok.1) h]
  simp only
  have hb:=Zls (of_decide_eq_true hok.2) hd.2
  rw[show(p:Int)+((uB i.a).length:Nat)=((p+(uB i.a).length:Nat):Int)by omega,hb]
  simp only
  rw[Zfo _ (by omega)]
  simp only[Yal,Yai,and_true]
  exact⟨Zcm rfl rfl rfl e3 e4 hl,by omega⟩
 ·have hl:=hl0 (by decide)
  rw[hl]at hr
  simp only[List.length_nil,gt_iff_lt,Nat.lt_irrefl,↓reduceIte]at hr
  obtain⟨_,_,_,e4⟩:=Zcn hr
  simp only[Yao]at hok
  rw[Ya6,Ya6]at h
  have hd:=Zdt h (Znp _)
  rw[Zg7 (of_decide_eq_true hok.1.1) h]
  simp only
  have hb:=Zls (of_decide_eq_true hok.1.2) hd.2
  have hd2:=Zdt hd.2 (Znp _)
  obtain⟨c1,c2,c3⟩:=ZcT (rest:=rest) hd2.2
  have hlo:i.lo%256=i.lo:=by have:=of_decide_eq_true hok.2;have:=hi.lo;omega
  rw[show(p:Int)+((uB i.a).length:Nat)=((p+(uB i.a).length:Nat):Int)by omega,hb]
  simp only
  rw[if_neg (by omega),if_pos (by omega),Zfo _ (by omega)]
  rw[show((p+(uB i.a).length:Nat):Int)+((uB i.b).length:Nat)=((p+(uB i.a).length+(uB i.b).length:Nat):Int)by omega,Yap,c2]
  simp only[Yal,Yag,List.length_nil,Yai,and_true]
  exact⟨Zcm rfl rfl rfl hlo.symm e4 hl,by omega⟩
 ·have hl:=hl0 (by decide)
  rw[hl]at hr
  simp only[List.length_nil,gt_iff_lt,Nat.lt_irrefl,↓reduceIte]at hr
  obtain⟨e1,e2,_,e4⟩:=Zcn hr
  unfold Zam at hok h ⊢
  simp only[Int.reduceEq,↓reduceIte,List.nil_append]at hok h ⊢
  have hlo:=of_decide_eq_true hok
  have hb:=ZAT i.lo
  rw[ZFG (bits:=32) ⟨by decide,by decide⟩ (by show -2^31<=_/\_<2^31;simp only[Int.reducePow];omega) h]
  simp only[not_true_eq_false,↓reduceIte]
  rw[Zfo _ (by omega),ZA9 ⟨hi.lo.1,hlo⟩]
  simp only[Yai,and_true]
  exact Zcm rfl e1 e2 rfl e4 hl
 ·have hl:=hl0 (by decide)
  rw[hl]at hr
  simp only[List.length_nil,gt_iff_lt,Nat.lt_irrefl,↓reduceIte]at hr
  obtain⟨e1,e2,_,e4⟩:=Zcn hr
  unfold Zam at hok h ⊢
  simp only[Int.reduceEq,↓reduceIte,List.nil_append]at hok h ⊢
  have hb:=ZAU i.lo
  rw[ZFG (bits:=64) ⟨by decide,by decide⟩ (by show -2^63<=_/\_<2^63;simp only[Int.reducePow];omega) h]
  simp only[not_true_eq_false,↓reduceIte]
  rw[Zfo _ (by omega),ZBa hi.lo]
  simp only[Yai,and_true]
  exact Zcm rfl e1 e2 rfl e4 hl
 ·have hl:=hl0 (by decide)
  rw[hl]at hr
  simp only[List.length_nil,gt_iff_lt,Nat.lt_irrefl,↓reduceIte]at hr
  obtain⟨e1,e2,_,_⟩:=Zcn hr
  unfold Zam at hok h ⊢
  simp only[Int.reduceEq,↓reduceIte,List.nil_append]at hok h ⊢
  obtain⟨j1,j2,j3⟩:=Zvl hi.lo hi.hi
  have hd:=Zdt h (by intro hh;rw[hh]at j3;cases j3)
  unfold Zu5
  simp only[Int.reduceEq,↓reduceIte,or_false,or_true,true_or]
  rw[if_neg (by rw[j3]at hd;omega),Yap,h,List.take_append_of_le_length (by omega),Yad (by omega),j1,j2,j3]
  simp only[Yai,and_true]
  exact⟨Zcm rfl e1 e2 rfl rfl hl,by omega⟩
 ·have hl:=hl0 (by decide)
  rw[hl]at hr
  simp only[List.length_nil,gt_iff_lt,Nat.lt_irrefl,↓reduceIte]at hr
  obtain⟨e1,e2,_,_⟩:=Zcn hr
  unfold Zam at hok h ⊢
  simp only[Int.reduceEq,↓reduceIte,List.nil_append]at hok h ⊢
  obtain⟨j1,j2,j3⟩:=Zvl hi.lo hi.hi
  have hd:=Zdt h (by intro hh;rw[hh]at j3;cases j3)
  unfold Zu5
  simp only[Int.reduceEq,↓reduceIte,or_false,or_true,true_or]
  rw[if_neg (by rw[j3]at hd;omega),Yap,h,List.take_append_of_le_length (by omega),Yad (by omega),j1,j2,j3]
  simp only[Yai,and_true]
  exact⟨Zcm rfl e1 e2 rfl rfl hl,by omega⟩
 ·have hl:=hl0 (by decide)
  rw[hl]at hr
  simp only[List.length_nil,gt_iff_lt,Nat.lt_irrefl,↓reduceIte]at hr
  obtain⟨_,e2,e3,e4⟩:=Zcn hr
  unfold Zam at hok h ⊢
  simp only[Int.reduceEq,↓reduceIte,List.nil_append]at hok h ⊢
  obtain⟨c1,c2,c3⟩:=ZcT (rest:=rest) h
  have ha:=of_decide_eq_true hok
  unfold Zu5
  simp only[Int.reduceEq,↓reduceIte,or_self,false_and,or_false,ge_iff_le]
  rw[if_neg (by omega),Yap,c2]
  simp only[Yag,List.length_nil,Yai,and_true]
  exact⟨Zcm rfl (by omega) e2 e3 e4 hl,by omega⟩
 ·have hl:=hl0 (by decide)
  rw[hl]at hr
  simp only[List.length_nil,gt_iff_lt,Nat.lt_irrefl,↓reduceIte]at hr
  obtain⟨e1,e2,e3,e4⟩:=Zcn hr
  unfold Zam at hok h ⊢
  simp only[Int.reduceEq,↓reduceIte,List.nil_append]at hok h ⊢
  obtain⟨c1,c2,c3⟩:=ZcT (rest:=rest) h
  unfold Zu5
  simp only[Int.reduceEq,↓reduceIte,or_self,true_and]
  rw[Yap,c2,if_neg (fun h=>h.elim (by omega) (fun h=>h rfl))]
  simp only[Yag,List.length_nil,Yai,and_true]
  exact⟨Zcm rfl e1 e2 e3 e4 hl,by omega⟩
theorem ZDi {n:Int}(h: -2147483648<=n/\n<2147483648):i32 (n%4294967296)=n:=by
 unfold i32
 show(if(true&&decide (n%4294967296%4294967296>=2147483648))=true then n%4294967296%4294967296-4294967296 else n%4294967296%4294967296)=n
 split
 ·rename_i c;simp at c;omega
 ·rename_i c;simp at c;omega
theorem ZDj {n:Int}(h: -9223372036854775808<=n/\n<9223372036854775808):i64 (n%18446744073709551616)=n:=by
 unfold i64
 show(if(true&&decide (n%18446744073709551616%18446744073709551616>=9223372036854775808))=true then n%18446744073709551616%18446744073709551616-18446744073709551616 else n%18446744073709551616%18446744073709551616)=n
 split
 ·rename_i c;simp at c;omega
 ·rename_i c;simp at c;omega
theorem Zdc {i2 i:Ins}{q' q:Int}(h:Zgr i2 q'=(i,q,0)):0<=q'/\i=i2/\q=q':=by
 unfold Zgr at h
 split at h
 ·simp at h
 ·simp only[Yai,and_true]at h;exact⟨by omega,h.1.symm,h.2.symm⟩
theorem ZjA {b:List Int}(hb:bytes b){p:Int}(h0:0<=p/\p<=b.length)(h:0<=(Zav b p).2):Zcu (Zav b p).1=true/\((uB (Zav b p).1).length:Int)<=(Zav b p).2-p/\p<(Zav b p).2/\(Zav b p).2<=b.length:=by
 have h1:=ZhP hb h0
 exact⟨Yae h1.1,Zu6 hb h0 h,by omega,by omega⟩
theorem Zg8 {b:List Int}(hb:bytes b){p:Int}(h1:p<=b.length)(h:0<=(Zbv b p).2):0<=p/\Zcu (Zbv b p).1=true/\((uB (Zbv b p).1).length:Int)<=(Zbv b p).2-p/\p<(Zbv b p).2/\(Zbv b p).2<=b.length:=by
 unfold Zbv at h ⊢
 by_cases c:p>=0
 ·rw[if_pos c]at h ⊢
  exact⟨c,ZjA hb ⟨c,h1⟩ h⟩
 ·rw[if_neg c]at h;exact absurd h (by simp only;omega)
theorem Zvm {b:List Int}(hb:bytes b): ∀(n:Nat) (p:Int) (acc:List Int),p<=b.length->0<=(tbR b n p acc).2->0<=p/\ ∃l,(tbR b n p acc).1=acc++l/\l.length=n/\l.all Zcu=true/\((l.flatMap uB).length:Int)<=(tbR b n p acc).2-p/\(n:Int)<=(tbR b n p acc).2-p/\(tbR b n p acc).2<=b.length
 |0,p,acc,h1,h=>by
  rw[tbR]at h ⊢
  exact⟨h,[],by simp,rfl,rfl,by simp,by simp,h1⟩
 |n+1,p,acc,h1,h=>by
  rw[tbR]at h ⊢
  by_cases c:p>=0
  ·rw[if_pos c]at h ⊢
   have hu:=ZhP hb (p:=p) ⟨c,h1⟩
   obtain⟨g0,l,g1,g2,g3,g4,g5,g6⟩:=Zvm hb n _ _ (by omega) h
   have hi:=ZjA hb ⟨c,h1⟩ g0
   refine⟨c,(Zav b p).1::l,by rw[g1];simp,by simp[g2],by rw[List.all_cons,hi.1,g3];rfl,?_,?_,g6⟩
   ·rw[List.flatMap_cons,Yal];omega
   ·omega
  ·rw[if_neg c]at h;exact absurd h (by simp only;omega)
structure ZHI (i:Ins)(form:Int)(n:Int):Prop where
 ok:ZbM i
 rest:ZdT i form=true
 one:(Zif i form).2=true
 len:((Zcl i form).length:Int)<=n
theorem ZbY {n:Int}(h:Zcu n=true):0<=n/\n<4294967296:=of_decide_eq_true h
theorem okI {op a b lo hi:Int}{l:List Int}(h1:0<=op/\op<=65023)(h2: -64<=a/\a<4294967296)(h3:0<=b/\b<4294967296)(h4:0<=lo/\lo<18446744073709551616)(h5:0<=hi/\hi<18446744073709551616)(h6:l.all Zcu=true)(h7:l.length<=100000000):ZbM ⟨op,a,b,lo,hi,l⟩:=
 ⟨by simp only;omega,by simp only;omega,by simp only;omega,h4,h5,fun x hx=>by have:=ZbY (Yat.1 h6 x hx);omega,h7⟩
theorem ZBb {b:List Int}(hb:bytes b)(hlen:b.length<=100000000){p:Int}(h0:0<=p/\p<=b.length){op form:Int}(hop:0<=op/\op<=65023)(hf:1<=form/\form<=14){i:Ins}{q:Int}(h:Zsl b p ⟨op,0,0,0,0,[]⟩ form=(i,q,0)):ZHI i form (q-p):=by
 have hu:=fun hh=>ZjA hb h0 hh
 have huo:=ZhP hb h0
 have hcs:form=1\/form=2\/form=3\/form=4\/form=5\/form=6\/form=7\/form=8\/form=9\/form=10\/form=11\/form=12\/form=13\/form=14:=by omega
 unfold Zsl at h
 rcases hcs with rfl|rfl|rfl|rfl|rfl|rfl|rfl|rfl|rfl|rfl|rfl|rfl|rfl|rfl
 all_goals simp only[Int.reduceEq,↓reduceIte,or_false,or_true,true_or,false_or,or_self]at h
 ·simp only[Yai,and_true]at h
  obtain⟨rfl,rfl⟩:=h
  exact⟨okI hop (by omega) (by omega) (by omega) (by omega) rfl (Nat.zero_le _),rfl,rfl,by show((0:Nat):Int)<=_;omega⟩
 ·simp only[Yai]at h
  obtain⟨rfl,rfl,he⟩:=h
  unfold ZoL at he ⊢
  by_cases c1:p<b.length/\ZdG (b.getD p.toNat 0)
  ·rw[if_pos c1]at he;cases he
  rw[if_neg c1]at he ⊢
  by_cases c2:p<b.length/\ZfX (b.getD p.toNat 0)
  ·rw[if_pos c2]at he ⊢
   have hk:=c2.2
   unfold ZfX at hk
   have hs:b.getD p.toNat 0-128= -64\/b.getD p.toNat 0-128= -1\/b.getD p.toNat 0-128= -2\/b.getD p.toNat 0-128= -5:=by omega
   refine⟨okI hop (by simp only;omega) (by omega) (by omega) (by omega) rfl (Nat.zero_le _),rfl,?_,?_⟩
   ·unfold Zif;simp only[Int.reduceEq,↓reduceIte];rw[if_pos hs]
   ·unfold Zcl;simp only[Int.reduceEq,↓reduceIte];rw[if_pos hs];simp only[Yag,List.length_nil];omega
  rw[if_neg c2]at he ⊢
  by_cases c3:(Zak b p 33).2.2≠0\/(Zak b p 33).1<0
  ·rw[if_pos c3]at he;cases he
  rw[if_neg c3]at he ⊢
  have hs:=Zgs hb (bits:=33) ⟨by decide,by decide⟩ h0 (Classical.not_not.1 fun hh=>c3 (.inl hh))
  have h2:(2:Int)^((33:Int)-1).toNat=4294967296:=by decide
  rw[h2]at hs
  have hn:0<=(Zak b p 33).1:=by apply Classical.byContradiction;intro hh;exact c3 (.inr (by omega))
  refine⟨okI hop (by simp only;omega) (by omega) (by omega) (by omega) rfl (Nat.zero_le _),rfl,?_,?_⟩
  ·unfold Zif;simp only[Int.reduceEq,↓reduceIte];rw[if_neg (by omega)];exact Yae ⟨hn,hs.2.2⟩
  ·unfold Zcl;simp only[Int.reduceEq,↓reduceIte];rw[if_neg (by omega)];exact hs.1
 ·obtain⟨h1,rfl,rfl⟩:=Zdc h
  have hi:=hu h1
  exact⟨okI hop (by have:=ZbY hi.1;omega) (by omega) (by omega) (by omega) rfl (Nat.zero_le _),rfl,hi.1,hi.2.1⟩
 ·obtain⟨h1,rfl,rfl⟩:=Zdc h
  have htn:(tbR b (Zav b p).1.toNat (Zav b p).2 []).2<=b.length:=by
   apply Classical.byContradiction;intro hh
   have:=(Zvm hb (Zav b p).1.toNat (Zav b p).2 [] (by omega) (by omega)).2
   obtain⟨_,_,_,_,_,_,h6⟩:=this
   omega
  obtain⟨g0,g1,g2,g3,g4⟩:=Zg8 hb htn h1
  obtain⟨t0,l,t1,t2,t3,t4,t5,t6⟩:=Zvm hb (Zav b p).1.toNat (Zav b p).2 [] (by omega) g0
  have hi:=hu t0
  rw[List.nil_append]at t1
  rw[t1]
  have hl:(l.length:Int)=(Zav b p).1:=by rw[t2];omega
  refine⟨okI hop (by have:=ZbY g1;omega) (by omega) (by omega) (by omega) t3 (by omega),rfl,?_,?_⟩
  ·unfold Zif;simp only[Int.reduceEq,↓reduceIte,or_self];rw[t3,g1];rfl
  ·unfold Zcl;simp only[Int.reduceEq,↓reduceIte,or_self,Yal];rw[hl];omega
 ·obtain⟨h1,rfl,rfl⟩:=Zdc h
  have hi:=hu h1
  exact⟨okI hop (by have:=ZbY hi.1;omega) (by omega) (by omega) (by omega) rfl (Nat.zero_le _),rfl,hi.1,hi.2.1⟩
 ·obtain⟨h1,rfl,rfl⟩:=Zdc h
  obtain⟨g0,g1,g2,g3,g4⟩:=Zg8 hb (by omega) h1
  have hi:=hu g0
  refine⟨okI hop (by have:=ZbY hi.1;omega) (by have:=ZbY g1;omega) (by omega) (by omega) rfl (Nat.zero_le _),rfl,?_,?_⟩
  ·unfold Zif;simp only[Int.reduceEq,↓reduceIte,or_self,or_true,true_or,or_false,false_or];rw[hi.1,g1];rfl
  ·unfold Zcl;simp only[Int.reduceEq,↓reduceIte,or_self,or_true,true_or,or_false,false_or,Yal];omega
 ·obtain⟨h1,rfl,rfl⟩:=Zdc h
  obtain⟨g0,g1,g2,g3,g4⟩:=Zg8 hb (by omega) h1
  have hi:=hu g0
  refine⟨okI hop (by have:=ZbY hi.1;omega) (by have:=ZbY g1;omega) (by omega) (by omega) rfl (Nat.zero_le _),rfl,?_,?_⟩
  ·unfold Zif;simp only[Int.reduceEq,↓reduceIte,or_self,or_true,true_or,or_false,false_or];rw[hi.1,g1];rfl
  ·unfold Zcl;simp only[Int.reduceEq,↓reduceIte,or_self,or_true,true_or,or_false,false_or,Yal];omega
 ·by_cases d1:(Zbv b (Zav b p).2).2>=b.length
  ·rw[if_pos d1]at h;simp at h
  rw[if_neg d1]at h
  by_cases d2:(Zbv b (Zav b p).2).2>=0
  ·rw[if_pos d2]at h
   obtain⟨h1,rfl,rfl⟩:=Zdc h
   obtain⟨g0,g1,g2,g3,g4⟩:=Zg8 hb (by omega) d2
   have hi:=hu g0
   have hx:=hb _ (Zbw (show(Zbv b (Zav b p).2).2.toNat<b.length by omega))
   have hx1:=hx.1
   have hx2:=hx.2
   refine⟨okI hop (by have:=ZbY hi.1;omega) (by have:=ZbY g1;omega) (by omega) (by omega) rfl (Nat.zero_le _),rfl,?_,?_⟩
   ·unfold Zif;simp only[Int.reduceEq,↓reduceIte,or_self,or_true,true_or,or_false,false_or];rw[hi.1,g1,Yae (by omega)];rfl
   ·unfold Zcl;simp only[Int.reduceEq,↓reduceIte,or_self,or_true,true_or,or_false,false_or,Yal,Yag,List.length_nil];omega
  ·rw[if_neg d2]at h
   obtain⟨h1,_,_⟩:=Zdc h
   exact absurd h1 (by omega)
 ·obtain⟨h1,rfl,rfl⟩:=Zdc h
  by_cases c:(Zak b p 32).2.2=0
  ·rw[if_neg (fun hh=>hh c)]at h1 ⊢
   have hs:=Zgs hb (bits:=32) ⟨by decide,by decide⟩ h0 c
   have h2:(2:Int)^((32:Int)-1).toNat=2147483648:=by decide
   rw[h2]at hs
   refine⟨okI hop (by omega) (by omega) (by omega) (by omega) rfl (Nat.zero_le _),rfl,?_,?_⟩
   ·unfold Zif Zam;simp only[Int.reduceEq,↓reduceIte,or_self];exact Yae (by omega)
   ·unfold Zcl Zam;simp only[Int.reduceEq,↓reduceIte,or_self,List.nil_append];rw[ZDi ⟨hs.2.1,hs.2.2⟩];exact hs.1
  ·rw[if_pos c]at h1;exact absurd h1 (by decide)
 ·obtain⟨h1,rfl,rfl⟩:=Zdc h
  by_cases c:(Zak b p 64).2.2=0
  ·rw[if_neg (fun hh=>hh c)]at h1 ⊢
   have hs:=Zgs hb (bits:=64) ⟨by decide,by decide⟩ h0 c
   have h2:(2:Int)^((64:Int)-1).toNat=9223372036854775808:=by decide
   rw[h2]at hs
   refine⟨okI hop (by omega) (by omega) (by omega) (by omega) rfl (Nat.zero_le _),rfl,?_,?_⟩
   ·unfold Zif Zam;simp only[Int.reduceEq,↓reduceIte,or_self]
   ·unfold Zcl Zam;simp only[Int.reduceEq,↓reduceIte,or_self,List.nil_append];rw[ZDj ⟨hs.2.1,hs.2.2⟩];exact hs.1
  ·rw[if_pos c]at h1;exact absurd h1 (by decide)
 ·unfold Zu5 at h
  simp only[Int.reduceEq,↓reduceIte,or_false,or_true,true_or,false_or]at h
  by_cases c:(b.length:Int)-p<16
  ·rw[if_pos c]at h;simp at h
  ·rw[if_neg c]at h
   simp only[Yai,and_true]at h
   obtain⟨rfl,rfl⟩:=h
   have hwb:bytes ((b.drop p.toNat).take 16):=ZbF (Zd8 hb _) 16
   have hl1:=ZdE (ZbF hwb 8)
   have hl2:=ZdE (Zd8 hwb 8)
   have e1:((List.take 16 (List.drop p.toNat b)).take 8).length=8:=by simp only[Yar,Yaw];omega
   have e2:((List.take 16 (List.drop p.toNat b)).drop 8).length=8:=by simp only[Yar,Yaw];omega
   rw[e1]at hl1
   rw[e2]at hl2
   have e3:(2:Int)^(8*8)=18446744073709551616:=by decide
   rw[e3]at hl1 hl2
   refine⟨okI hop (by omega) (by omega) hl1 hl2 rfl (Nat.zero_le _),rfl,?_,?_⟩
   ·unfold Zif Zam;simp only[Int.reduceEq,↓reduceIte,or_self]
   ·unfold Zcl Zam;simp only[Int.reduceEq,↓reduceIte,or_self,List.nil_append];unfold join;rw[Yal,Zch,Zch];omega
 ·unfold Zu5 at h
  simp only[Int.reduceEq,↓reduceIte,or_false,or_true,true_or,false_or]at h
  by_cases c:(b.length:Int)-p<16
  ·rw[if_pos c]at h;simp at h
  ·rw[if_neg c]at h
   simp only[Yai,and_true]at h
   obtain⟨rfl,rfl⟩:=h
   have hwb:bytes ((b.drop p.toNat).take 16):=ZbF (Zd8 hb _) 16
   have hl1:=ZdE (ZbF hwb 8)
   have hl2:=ZdE (Zd8 hwb 8)
   have e1:((List.take 16 (List.drop p.toNat b)).take 8).length=8:=by simp only[Yar,Yaw];omega
   have e2:((List.take 16 (List.drop p.toNat b)).drop 8).length=8:=by simp only[Yar,Yaw];omega
   rw[e1]at hl1
   rw[e2]at hl2
   have e3:(2:Int)^(8*8)=18446744073709551616:=by decide
   rw[e3]at hl1 hl2
   refine⟨okI hop (by omega) (by omega) hl1 hl2 rfl (Nat.zero_le _),rfl,?_,?_⟩
   ·unfold Zif Zam;simp only[Int.reduceEq,↓reduceIte,or_self]
   ·unfold Zcl Zam;simp only[Int.reduceEq,↓reduceIte,or_self,List.nil_append];unfold join;rw[Yal,Zch,Zch];omega
 ·unfold Zu5 at h
  simp only[Int.reduceEq,↓reduceIte,or_self,false_and,or_false]at h
  by_cases c:p>=b.length
  ·rw[if_pos c]at h;simp at h
  ·rw[if_neg c]at h
   simp only[Yai,and_true]at h
   obtain⟨rfl,rfl⟩:=h
   have hx:=hb _ (Zbw (show p.toNat<b.length by omega))
   have hx1:=hx.1
   have hx2:=hx.2
   refine⟨okI hop (by omega) (by omega) (by omega) (by omega) rfl (Nat.zero_le _),rfl,?_,?_⟩
   ·unfold Zif Zam;simp only[Int.reduceEq,↓reduceIte,or_self];exact Yae (by omega)
   ·unfold Zcl Zam;simp only[Int.reduceEq,↓reduceIte,or_self,List.nil_append,Yag,List.length_nil];omega
 ·unfold Zu5 at h
  simp only[Int.reduceEq,↓reduceIte,or_self,true_and]at h
  by_cases c:p>=b.length\/b.getD p.toNat 0≠0
  ·rw[if_pos c]at h;simp at h
  ·rw[if_neg c]at h
   simp only[Yai,and_true]at h
   obtain⟨rfl,rfl⟩:=h
   refine⟨okI hop (by omega) (by omega) (by omega) (by omega) rfl (Nat.zero_le _),rfl,?_,?_⟩
   ·unfold Zif Zam;simp only[Int.reduceEq,↓reduceIte,or_self]
   ·unfold Zcl Zam;simp only[Int.reduceEq,↓reduceIte,or_self,List.nil_append,Yag,List.length_nil];omega
theorem Zlt {i:Ins}(h:(Zdo i).2=true):(ofS i.op).2=true/\ZdT i (ofS i.op).1.1=true/\(Zif i (ofS i.op).1.1).2=true/\(Zdo i).1=opB i.op++Zcl i (ofS i.op).1.1:=by
 unfold Zdo at *
 by_cases c:(ofS i.op).2=true/\ZdT i (ofS i.op).1.1=true
 ·rw[if_pos c]at h ⊢
  exact⟨c.1,c.2,h,ZoR _ _⟩
 ·rw[if_neg c]at h;cases h
theorem ZAa (op:Int):opB op≠[]:=by unfold opB;split<;>simp
theorem ZBc {i:Ins}(h:(Zdo i).2=true):(Zdo i).1≠[]:=by
 rw[(Zlt h).2.2.2]
 intro hh
 exact ZAa _ (List.append_eq_nil_iff.1 hh).1
theorem Znq {b:List Int}(hb:bytes b): ∀(code:List Ins) (o j:List Int) (l:List Ins) (p:Nat) (rest:List Int) (n:Nat),Zaq o code=true->(∀i∈code,ZbM i/\(Zdo i).2=true)->b.drop p=ZeJ code++rest->p<=b.length->code.length<=n->
 ZdU b n ⟨p,o,j,0⟩ l=(l++code,(p:Int)+((ZeJ code).length:Nat),0)
 |[],o,_,_,_,_,_,hc,_,_,_,_=>by rw[Zaq]at hc;cases hc
 |i::t,o,j,l,p,rest,n,hc,hi,hd,hp,hn=>by
  obtain⟨n',rfl⟩: ∃n',n=n'+1:=⟨n-1,by simp only[Yag]at hn;omega⟩
  obtain⟨hok,hy⟩:=hi i (List.mem_cons_self ..)
  obtain⟨h1,h2,h3,h4⟩:=Zlt hy
  have hbp:ZeJ (i::t)=opB i.op++(Zcl i (ofS i.op).1.1++ZeJ t):=by
    unfold ZeJ;rw[List.flatMap_cons,h4,Ya6]
  rw[hbp,Ya6,Ya6]at hd
  have ho:=ZDe h1 hd
  have hd1:=Zdt hd (ZAa _)
  have hf:=ZDh hok (ZhQ h1).2 h2 h3 hd1.2 hd1.1
  have hd2:b.drop (p+(opB i.op).length+(Zcl i (ofS i.op).1.1).length)=ZeJ t++rest:=by rw[<- List.drop_drop,hd1.2,List.drop_left]
  have hlen:(p+(opB i.op).length+(Zcl i (ofS i.op).1.1).length)<=b.length:=by
    have:=congrArg List.length hd1.2
    simp only[Yaw,Yal]at this
    omega
  have hst:=Zky hb (k:=p) (o:=o) (j:=j) (l:=l) (n:=n') ⟨by simp only;omega,by simp only;omega⟩ rfl
  rw[ho]at hst
  simp only[ne_eq,not_true_eq_false,false_and,false_or,true_and]at hst
  have hst:=hst.2.2 _ rfl
  rw[show(p:Int)+((opB i.op).length:Nat)=((p+(opB i.op).length:Nat):Int)by omega,hf]at hst
  simp only[ne_eq,not_true_eq_false,false_and,false_or,true_and]at hst
  have hr:=hst.2
  rw[show((p+(opB i.op).length:Nat):Int)+((Zcl i (ofS i.op).1.1).length:Nat)=((p+(opB i.op).length+(Zcl i (ofS i.op).1.1).length:Nat):Int)by omega]at hr
  have hl2:(ZeJ (i::t)).length=(opB i.op).length+(Zcl i (ofS i.op).1.1).length+(ZeJ t).length:=by rw[hbp,Yal,Yal];omega
  have hgo: ∀(o' j':List Int),Zaq o' t=true->ZdU b n' ⟨((p+(opB i.op).length+(Zcl i (ofS i.op).1.1).length:Nat):Int),o',j',0⟩ (l++[i])=(l++i::t,(p:Int)+((ZeJ (i::t)).length:Nat),0):=fun o' j' hc'=>by
    rw[Znq hb t o' j' (l++[i]) _ rest n' hc' (fun x hx=>hi x (Yaq _ hx)) hd2 hlen (by simp only[Yag]at hn;omega),hl2]
    simp only[Ya6,List.singleton_append,Yai,true_and,and_true]
    omega
  unfold Rnd at hr
  have hcc:=Zh4 hc
  rcases hcc with⟨g1,g2,g3⟩|⟨g1,g2,g3⟩|⟨g1,g2,g3⟩|⟨g1,⟨g2,g4⟩,g3⟩|⟨g1,⟨g2,g4⟩,g3⟩|⟨g1,g2,g3⟩|⟨g1,g2,g3⟩|⟨g1,g3⟩ <;>
  rcases hr with⟨r1,r2,r3⟩|⟨r1,r2,r3⟩|⟨r1,r2,r3⟩|⟨r1,⟨r2,r4⟩,r3⟩|⟨r1,⟨r2,r4⟩,r3⟩|⟨r1,r2,r3⟩|⟨r1,r2,r3⟩|⟨r1,r3⟩
  all_goals first
    |(cases g3;done)
    |(exfalso;omega)
    |(rw[<- r3];exact hgo _ _ g3)
    |(have ht:t=[]:=Yay (of_decide_eq_true g3.symm)
      subst ht
      rw[r3,hl2]
      simp only[ZeJ,List.flatMap_nil,List.length_nil,Yai,true_and,and_true]
      omega)
theorem Zlu: ∀(code:List Ins),(∀i∈code,(Zdo i).2=true)->code.length<=(ZeJ code).length
 |[],_=>Nat.le_refl _
 |i::t,h=>by
  have ih:=Zlu t (fun x hx=>h x (Yaq _ hx))
  have hne:=ZBc (h i (List.mem_cons_self ..))
  have:0<(Zdo i).1.length:=by cases hh:(Zdo i).1 with|nil=>exact absurd hh hne|cons=>exact Nat.succ_pos _
  have e:ZeJ (i::t)=(Zdo i).1++ZeJ t:=List.flatMap_cons ..
  rw[e,Yal,Yag];omega
theorem Zvn {pre post:List Int}{code:List Ins}(hb:bytes (pre++ZeJ code++post))(hc:Zaq [] code=true)(hi: ∀i∈code,ZbM i/\(Zdo i).2=true) :
 ZbG (pre++ZeJ code++post) pre.length=(code,(pre.length:Int)+((ZeJ code).length:Nat),0):=by
 have hl:=Zlu code (fun i h=>(hi i h).2)
 unfold ZbG
 rw[if_neg (by simp only[Yal];omega)]
 have:=Znq hb code [] [] [] pre.length post ((pre++ZeJ code++post).length+1) hc hi (by rw[Ya6,List.drop_left]) (by simp only[Yal];omega) (by simp only[Yal];omega)
 rw[this,List.nil_append]
theorem Zvo {op q:Int}(h:(ZwG op q).2.2=0):(ofS op).2=true/\ZwG op q=(op,q,0):=by
 unfold ZwG at h ⊢
 by_cases c:flS op=true
 ·rw[if_pos c]at h;exact absurd h (by simp only;omega)
 ·rw[if_neg c]at h ⊢
  by_cases c2:(ofS op).2=true
  ·exact⟨c2,if_pos c2⟩
  ·rw[if_neg c2]at h;exact absurd h (by simp only;omega)
theorem ZBd {b:List Int}(hb:bytes b){p:Int}(h0:0<=p/\p<=b.length)(h:(Zct b p).2.2=0):(ofS (Zct b p).1).2=true/\((opB (Zct b p).1).length:Int)<=(Zct b p).2.1-p:=by
 unfold Zct at h ⊢
 by_cases c0:p>=b.length
 ·rw[if_pos c0]at h;exact absurd h (by simp only;omega)
 ·rw[if_neg c0]at h ⊢
  by_cases c1:b.getD p.toNat 0=252\/b.getD p.toNat 0=253
  ·rw[if_pos c1]at h ⊢
   by_cases c2:(Zav b (p+1)).2<0
   ·rw[if_pos c2]at h;exact absurd h (by simp only;omega)
   ·rw[if_neg c2]at h ⊢
    by_cases c3:b.getD p.toNat 0=252/\(Zav b (p+1)).1<=7
    ·rw[if_pos c3]at h;exact absurd h (by simp only;omega)
    ·rw[if_neg c3]at h ⊢
     by_cases c4:b.getD p.toNat 0=252\/(Zav b (p+1)).1>255
     ·rw[if_pos c4]at h;exact absurd h (by simp only;omega)
     ·rw[if_neg c4]at h ⊢
      obtain⟨h1,h2⟩:=Zvo h
      rw[h2]
      obtain⟨g1,g2,g3,g4⟩:=ZjA hb (p:=p+1) ⟨by omega,by omega⟩ (by omega)
      have g5:=ZbY g1
      refine⟨h1,?_⟩
      simp only
      unfold opB
      rw[if_pos (by omega),show 64768+(Zav b (p+1)).1-64768=(Zav b (p+1)).1 by omega,Yag]
      omega
  ·rw[if_neg c1]at h ⊢
   obtain⟨h1,h2⟩:=Zvo h
   rw[h2]
   refine⟨h1,?_⟩
   have hx:b.getD p.toNat 0<256:=by
    have hlt:p.toNat<b.length:=by omega
    rw[Yah,Yab hlt]
    have:=(hb _ (List.getElem_mem hlt)).2
    simp only[Option.getD_some];omega
   simp only
   unfold opB
   rw[if_neg (by omega),List.length_singleton]
   omega
theorem ZBe {i:Ins}(h1:(ofS i.op).2=true)(h2:ZdT i (ofS i.op).1.1=true)(h3:(Zif i (ofS i.op).1.1).2=true):(Zdo i).2=true/\(Zdo i).1=opB i.op++Zcl i (ofS i.op).1.1:=by
 unfold Zdo
 rw[if_pos ⟨h1,h2⟩]
 exact⟨h3,ZoR i _⟩
structure Got (b:List Int)(k:Int)(o:List Int)(l code:List Ins)(to:Int)(t:List Ins):Prop where
 eq:code=l++t
 closed:Zaq o t=true
 ok: ∀i∈t,ZbM i/\(Zdo i).2=true
 len:((ZeJ t).length:Int)<=to-k
 le:to<=b.length
 last: ∃u i,t=u++[i]/\i.op=11
theorem Znr {b:List Int}(hb:bytes b)(hlen:b.length<=100000000){code:List Ins}{to:Int}: ∀(n:Nat) (k:Int) (o j:List Int) (l:List Ins),0<=k/\k<=b.length->
 ZdU b n ⟨k,o,j,0⟩ l=(code,to,0)-> ∃t,Got b k o l code to t
 |0,_,_,_,_,_,h=>by rw[ZdU]at h;simp at h
 |n+1,k,o,j,l,hk,h=>by
  have hA: ∀{e:Int},e≠0->(code,to,(0:Int))≠([],0,e):=fun he h=>by
    simp only[Yai]at h;exact he h.2.2.symm
  have ho:=ZBd hb (p:=k) hk
  rcases Zky hb ⟨by simp only;omega,by simp only;omega⟩ h with⟨h1,h2⟩|⟨h1,h2,h3,h4⟩
  ·exact absurd h2 (hA h1)
  ·obtain⟨ho1,ho2⟩:=ho h1
   have hf:=(ZhQ ho1).2
   rcases h4 _ rfl with⟨h5,h6⟩|⟨h5,h6,h7⟩
   ·exact absurd h6 (hA h5)
   ·have hop:=Zvj (b:=b) (p:=(Zct b k).2.1) (form:=(ofS (Zct b k).1).1.1) (i:=⟨(Zct b k).1,0,0,0,0,[]⟩)
    have hfi:=fun i q (e:_=(i,q,0))=>ZBb hb hlen (p:=(Zct b k).2.1) ⟨by omega,by omega⟩ (op:=(Zct b k).1) (form:=(ofS (Zct b k).1).1.1) h3 hf (i:=i) (q:=q) e
    generalize Zsl b (Zct b k).2.1 ⟨(Zct b k).1,0,0,0,0,[]⟩ (ofS (Zct b k).1).1.1=f at *
    obtain⟨i,p2,e2⟩:=f
    simp only at h5 h6 h7 hop
    subst h5
    generalize Zct b k=q at *
    obtain⟨op,p1,e1⟩:=q
    simp only at h1 h2 h3 ho1 ho2 hf h6 h7 hfi hop
    have hg:=hfi i p2 rfl
    have hio:i.op=op:=hop trivial
    rw[<- hio]at hg ho1
    have hy:=ZBe ho1 hg.rest hg.one
    have hl:((Zdo i).1.length:Int)<=p2-k:=by
      rw[hy.2,Yal]
      have:=hg.len
      rw[hio]at this ⊢
      omega
    have hgo: ∀o' j',ZdU b n ⟨p2,o',j',0⟩ (l++[i])=(code,to,0)->(∀t,Zaq o' t=true->Zaq o (i::t)=true)-> ∃t,Got b k o l code to t:=fun o' j' hr hc=>by
      obtain⟨t,g1,g2,g3,g4,g5,u,x,g6,g7⟩:=Znr hb hlen n p2 o' j' (l++[i]) ⟨by omega,by omega⟩ hr
      refine⟨i::t,by rw[g1,Ya6];rfl,hc t g2,?_,?_,g5,i::u,x,by rw[g6];rfl,g7⟩
      ·intro y hm
       rcases Yav.1 hm with rfl|hm
       ·exact⟨hg.ok,hy.1⟩
       ·exact g3 y hm
      ·unfold ZeJ at g4 ⊢
       rw[List.flatMap_cons,Yal]
       omega
    unfold Rnd at h7
    rcases h7 with⟨r1,r2,r3⟩|⟨r1,r2,r3⟩|⟨r1,r2,r3⟩|⟨r1,⟨r2,r4⟩,r3⟩|⟨r1,⟨r2,r4⟩,r3⟩|⟨r1,r2,r3⟩|⟨r1,r2,r3⟩|⟨r1,r3⟩
    ·exact absurd r3 (hA (by decide))
    ·exact hgo _ _ r3 fun t ht=>by rw[Zaq,hio,if_pos r1,if_neg r2];exact ht
    ·exact absurd r3 (hA (by decide))
    ·exact absurd r3 (hA (by decide))
    ·exact hgo _ _ r3 fun t ht=>by rw[Zaq,hio,if_neg (by omega),if_pos r1,if_neg (fun h=>h.elim r2 (fun h=>h r4))];exact ht
    ·simp only[Yai,and_true]at r3
     obtain⟨r3,rfl⟩:=r3
     refine⟨[i],r3,?_,?_,?_,by omega,[],i,rfl,by rw[hio,r1]⟩
     ·rw[Zaq,hio,if_neg (by omega),if_neg (by omega),if_pos r1,if_pos r2];rfl
     ·intro y hm
      rw[List.mem_singleton]at hm
      subst hm
      exact⟨hg.ok,hy.1⟩
     ·unfold ZeJ
      rw[List.flatMap_cons,List.flatMap_nil,List.append_nil]
      omega
    ·exact hgo _ _ r3 fun t ht=>by rw[Zaq,hio,if_neg (by omega),if_neg (by omega),if_pos r1,if_neg r2];exact ht
    ·exact hgo _ _ r3 fun t ht=>by rw[Zaq,hio,if_neg (by omega),if_neg (by omega),if_neg (by omega)];exact ht
theorem Zvp {b:List Int}(hb:bytes b)(hlen:b.length<=100000000){p:Int}{code:List Ins}{to:Int}(h:ZbG b p=(code,to,0)) :
 0<=p/\Got b p [] [] code to code:=by
 unfold ZbG at h
 split at h
 ·simp at h
 ·rename_i c
  have h0:0<=p/\p<=b.length:=by omega
  obtain⟨t,ht⟩:=Znr hb hlen _ _ _ _ _ h0 h
  have:=ht.eq
  rw[List.nil_append]at this
  subst this
  exact⟨h0.1,ht⟩
def uR (n:Int):List Int:=if n<0\/n>4294967295 then uB 0 else uB n
def hR (op:Int):List Int:=if op>=64768 then 253::uR (op-64768)else[op%256]
def ZFH (h:List Int)(i:Ins)(form:Int):List Int:=
 if form=2 then(if i.a<0 then h++[(i.a+128)%256]else h++ZdD i.a)
 else if form=3\/form=5 then h++uR i.a
 else if form=4 then h++uR i.l.length++i.l.flatMap uR++uR i.a
 else if form=6\/form=7 then h++uR i.a++uR i.b
 else if form=8 then h++uR i.a++uR i.b++[i.lo%256]
 else if form=9 then h++ZdD (sgn 32 i.lo)
 else if form=10 then h++ZdD (i64 i.lo)
 else if form=11\/form=12 then h++join i.lo i.hi
 else if form=13 then h++[i.a%256]
 else if form=14 then h++[0]
 else h
def ZDk (i:Ins):List Int:=ZFH (hR i.op) i (ofS i.op).1.1
def ZDl (code:List Ins):List Int:=code.flatMap ZDk
def szC (code:List Ins):Nat:=(code.map fun i=>6+i.l.length).sum
theorem Zii {n:Int}(h:Zcu n=true):uR n=uB n:=by
 unfold Zcu at h
 have:=of_decide_eq_true h
 unfold uR;rw[if_neg (by omega)]
theorem ZBf (x:Int):sgn 32 x=i32 x:=by
 unfold sgn i32
 show(if x%4294967296<2147483648 then x%4294967296 else x%4294967296-4294967296)=(if(true&&decide (x%4294967296>=2147483648))=true then x%4294967296-4294967296 else x%4294967296)
 simp only[Bool.true_and,Yaz]
 split<;>split<;>omega
theorem ZDm: ∀{l:List Int},l.all Zcu=true->l.flatMap uR=l.flatMap uB
 |[],_=>rfl
 |x::t,h=>by
  rw[List.all_cons,Yao]at h
  rw[List.flatMap_cons,List.flatMap_cons,Zii h.1,ZDm h.2]
theorem ZDn {i:Ins}(hi:ZbM i)(h:(Zdo i).2=true):ZDk i=(Zdo i).1:=by
 obtain⟨h1,h2,h3,h4⟩:=Zlt h
 have hb:=ZhQ h1
 have hh:hR i.op=opB i.op:=by
  unfold hR opB
  split
  ·rw[Zii (by rw[Zcu];exact Yae ⟨by omega,by omega⟩)]
  ·rfl
 have hn:=hi.n
 rw[h4];unfold ZDk;rw[hh]
 clear h1 h2 h4 h hh
 obtain⟨-,hf1,hf2⟩:=hb
 generalize (ofS i.op).1.1=form at *
 generalize opB i.op=g
 have hf:form=1\/form=2\/form=3\/form=4\/form=5\/form=6\/form=7\/form=8\/form=9\/form=10\/form=11\/form=12\/form=13\/form=14:=by omega
 unfold Zif at h3
 unfold ZFH Zcl Zam
 rcases hf with rfl|rfl|rfl|rfl|rfl|rfl|rfl|rfl|rfl|rfl|rfl|rfl|rfl|rfl
 all_goals simp only[Int.reduceEq,↓reduceIte,or_self,or_false,false_or,or_true,true_or,List.append_nil,List.nil_append,Yao,Yaz]at h3 ⊢
 ·by_cases c:i.a= -64\/i.a= -1\/i.a= -2\/i.a= -5
  ·rw[if_pos c,if_pos (by omega)]
  ·rw[if_neg c]at h3 ⊢
   have:=of_decide_eq_true h3
   rw[if_neg (by omega)]
 ·rw[Zii h3]
 ·rw[Zii h3.2,ZDm h3.1,Zii (by rw[Zcu];exact Yae ⟨by omega,by omega⟩)]
  simp only[Ya6]
 ·rw[Zii h3]
 ·rw[Zii h3.1,Zii h3.2,Ya6]
 ·rw[Zii h3.1,Zii h3.2,Ya6]
 ·rw[Zii h3.1.1,Zii h3.1.2];simp only[Ya6]
 ·rw[ZBf]
theorem Zvq: ∀{code:List Ins},(∀i∈code,ZbM i)->ZwH code=true->ZDl code=ZeJ code
 |[],_,_=>rfl
 |i::t,hi,h=>by
  unfold ZwH at h
  rw[List.all_cons,Yao]at h
  have:=Zvq (code:=t) (fun j hj=>hi j (Yaq _ hj)) h.2
  unfold ZDl ZeJ at *
  rw[List.flatMap_cons,List.flatMap_cons,ZDn (hi i (List.mem_cons_self ..)) h.1,this]
theorem Zdd (n:Int):bytes (uR n):=by unfold uR uB;split<;>exact Zko _
theorem Zlv (n:Int):bytes [n%256]:=fun x hx=>by rw[List.mem_singleton.1 hx];unfold byte;omega
theorem ZjB: ∀(l:List Int),bytes (l.flatMap uR)
 |[]=>fun x hx=>absurd hx (by simp)
 |x::t=>by rw[List.flatMap_cons];exact ZaB (Zdd x) (ZjB t)
theorem ZrO (i:Ins):bytes (ZDk i):=by
 have hh:bytes (hR i.op):=by
  unfold hR;split
  ·exact ZaB (a:=[253]) (fun x hx=>by rw[List.mem_singleton.1 hx];unfold byte;omega) (Zdd _)
  ·exact Zlv _
 unfold ZDk ZFH
 repeat' split
 all_goals first
  |exact hh
  |exact ZaB hh (Zlv _)
  |exact ZaB hh (Zrz _)
  |exact ZaB hh (Zdd _)
  |exact ZaB (ZaB hh (Zdd _)) (Zdd _)
  |exact ZaB (ZaB (ZaB hh (Zdd _)) (ZjB _)) (Zdd _)
  |exact ZaB (ZaB (ZaB hh (Zdd _)) (Zdd _)) (Zlv _)
  |exact ZaB hh (ZaB (Zm8 _ _) (Zm8 _ _))
  |exact ZaB hh (fun x hx=>by rw[List.mem_singleton.1 hx];unfold byte;omega)
theorem Zkz: ∀(code:List Ins),bytes (ZDl code)
 |[]=>fun x hx=>absurd hx (by simp[ZDl])
 |i::t=>by unfold ZDl;rw[List.flatMap_cons];exact ZaB (ZrO i) (Zkz t)
theorem ZrP {code:List Ins}(hi: ∀i∈code,ZbM i)(h:ZwH code=true):bytes (ZeJ code):=by
 rw[<- Zvq hi h];exact Zkz code
theorem Zvr (n:Int):(uB n).length<=10:=by
 unfold uB
 exact Ziw 9 _ (by simp only[Nat.reduceAdd,Nat.reduceMul,Nat.reducePow];omega)
theorem ZoS {n:Int}(h: -9223372036854775808<=n/\n<=9223372036854775807):(ZdD n).length<=10:=
 Zc7 9 n (by simp only[Nat.reduceMul,Int.reducePow,Int.reduceMul];omega)
theorem ZqE: ∀(l:List Int),(l.flatMap uB).length<=10*l.length
 |[]=>Nat.le_refl _
 |x::t=>by
  have:=ZqE t
  have:=Zvr x
  rw[List.flatMap_cons,Yal,Yag];omega
theorem ZDo (op:Int):(opB op).length<=11:=by
 unfold opB;split
 ·have:=Zvr (op-64768);simp only[Yag];omega
 ·simp
theorem ZBg (l h:Int):(join l h).length=16:=by unfold join;rw[Yal,Zch,Zch]
theorem ZBh {i:Ins}(hi:ZbM i):(Zdo i).1.length<=60+10*i.l.length:=by
 have h1:=ZDo i.op
 have h2:=Zvr i.a
 have h3:=Zvr i.b
 have h4:=ZqE i.l
 have h5:=Zvr i.l.length
 have h6:=ZoS hi.a
 have h7:=ZoS (n:=i32 i.lo) (by have:=ZAT i.lo;omega)
 have h8:=ZoS (ZAU i.lo)
 have h9:=ZBg i.lo i.hi
 unfold Zdo
 by_cases c:(ofS i.op).2=true/\ZdT i (ofS i.op).1.1=true
 ·rw[if_pos c,ZoR]
  unfold Zcl Zam
  repeat' split
  all_goals try simp only[Yal,Yag,List.length_nil]
  all_goals omega
 ·rw[if_neg c];simp
theorem ZoT: ∀{code:List Ins},(∀i∈code,ZbM i)->(ZeJ code).length<=10*szC code
 |[],_=>Nat.le_refl _
 |i::t,hi=>by
  have:=ZoT (code:=t) (fun j hj=>hi j (Yaq _ hj))
  have:=ZBh (hi i (List.mem_cons_self ..))
  unfold ZeJ szC at *
  rw[List.flatMap_cons,Yal,List.map_cons,List.sum_cons];omega
theorem Zvs: ∀(code:List Ins),code.length<=szC code
 |[]=>Nat.le_refl _
 |i::t=>by
  have:=Zvs t
  unfold szC at *
  rw[Yag,List.map_cons,List.sum_cons];omega
end Go.Proofs.YtimhmpdfioihlaaGreatDoor
