/- Write. -/
import Derived.Test.YtimhmpdfioihlaaGreatDoorDP
import Derived.Test.YtimhmpdfioihlaaGreatDoorGPreV
import Derived.Test.YtimhmpdfioihlaaGreatDoorGV6
import Derived.Test.YtimhmpdfioihlaaGreatDoorGCB
import Derived.Test.YtimhmpdfioihlaaGreatDoorWR3
import Derived.Test.YtimhmpdfioihlaaGreatDoorEN11
import Derived.Test.YtimhmpdfioihlaaGreatDoorGEN9v
import Derived.Test.YtimhmpdfioihlaaGreatDoorLMA
import Derived.Test.YtimhmpdfioihlaaGreatDoorGMT1
import Derived.Test.YtimhmpdfioihlaaGreatDoorSMod
set_option linter.unusedSimpArgs false
set_option linter.unusedVariables false
set_option maxHeartbeats 12800000
namespace Go.Proofs.YtimhmpdfioihlaaGreatDoor
set_option maxRecDepth 20000
open Go Go.Abs Nat
attribute [local irreducible] AW AWL AC FW CW CWr IntKind.wrap
section
def T5w (code:List Ins)(o:List Int)(k:Nat):St:={ n:=30,slots:=[(4,.ref 4 0 o.length 1),(12,.view code.length 6 (Zap code)),(13,.int .i64 code.length),(14,.int .i64 (k:Int))],mem:=[(4,⟨true,Zi .u8 o⟩)] }
theorem Zsg (code:List Ins){k:Nat}(hkl:k<code.length):code.drop k=code.getD k Zgt::code.drop (k+1):=by
 rw[List.drop_eq_getElem_cons hkl,Yah,Yab hkl];rfl
theorem ZHX.NM:type_of% @MB.NM/\type_of% @T5w.eq_1:=
 ⟨MB.NM,@T5w.eq_1⟩
open ZHX
theorem ZD5.kp:type_of% (@Z2 [0,2,3,4,6,7,8,12,13,14]):= @Z2 [0,2,3,4,6,7,8,12,13,14]
theorem ZD5.cl {p:Prop}(h:p:=by
 first
  |refine AWL.frzG rfl rfl rfl ?_
  |refine AWL.cC (f:=106) ZEJ rfl rfl rfl rfl rfl rfl (hcl) ?_
  |refine AWL.cC (f:=107) ZEK rfl rfl rfl rfl rfl rfl (hpt) ?_
 all_goals(apply_rules (newGoals:= .nonDependentOnly) only[dep];exact())):p:=h
open ZD5 Zm in
theorem Zsh (code:List Ins)(hi: ∀i∈code,ZbM i)(hl:code.length<=1048576)(hB:(ZeJ code).length<=1000000000) :
 AC Tryz.prog 62 [.view code.length 6 (Zap code)] (fun v m=>((Zw code).1=[]/\v= .tup [.nils,.int .i64 (Zw code).2]/\m=[])\/ ∃k,v= .tup [.ref k 0 (Zw code).1.length 1,.int .i64 (Zw code).2]/\m=[(k,Zi .u8 (Zw code).1)]):=by
 obtain⟨A,hA⟩: ∃A,Zw code=A:=⟨_,rfl⟩
 rw[hA]
 have hcl:=Zve code (by omega)
 have hpt:True:=trivial
 unfold Zw at hA
 refine AC.enter Tryz.func62 rfl (Yaa rfl) ?_
 simp only[Tryz.f62]
 by_cases h1:Zaq [] code=true
 case neg=>
  rw[if_neg (fun h=>h1 h.1)]at hA
  subst hA
  rw[Bool.not_eq_true]at h1
  rw[h1]at hcl
  have nx:=trivial
  refine' ZgR
  all_goals first
   |exact .inl ⟨trivial,rfl,rfl⟩
   |exact .inl ⟨rfl,rfl,rfl⟩
   |exact .inl ⟨trivial,trivial,trivial⟩
   |exact .inr ⟨2,rfl,rfl⟩
 rw[h1]at hcl
 have nx:=trivial
 refine' ZgR
 refine AW.loop [4,12,13,14] [4] (fun m st=> ∃(k:Nat) (o:List Int),st=T5w code o k/\k<=code.length/\o++ZeJ (code.drop k)=ZeJ code/\ZwH (code.drop k)=ZwH code/\m=code.length-k) ?_ ?_
 ·exact⟨_,0,[],rfl,Nat.zero_le _,rfl,rfl,rfl⟩
 rintro m st ⟨k,o,rfl,hk,hbo,hal,rfl⟩
 clear hcl
 by_cases hkl:k<code.length
 ·have e7:IntKind.i64.wrap ((k:Int)+1)=((k+1:Nat):Int):=Zc _ (by omega) (by omega)
  have hd1:decide ((k:Int)<(code.length:Int))=true:=Yae (by omega)
  have l1:=ZfJ code hkl
  have r1:=ZfK code hkl
  rw[Zsg code hkl]at hbo hal
  have hpt:=ZD4 (code.getD k Zgt) (hi _ (by rw[Yah,Yab hkl];exact List.getElem_mem hkl))
  have hbo:o++((Zdo (code.getD k Zgt)).1++ZeJ (code.drop (k+1)))=ZeJ code:=by rw[<- hbo];unfold ZeJ;rw[List.flatMap_cons]
  have hal:((Zdo (code.getD k Zgt)).2&&ZwH (code.drop (k+1)))=ZwH code:=by rw[<- hal];unfold ZwH;rw[List.all_cons]
  generalize code.getD k Zgt=i at l1 hbo hal hpt
  generalize Zdo i=y at hbo hal hpt
  obtain⟨io,ia,ib,il,ih,ill⟩:=i
  obtain⟨y1,y2⟩:=y
  unfold ZgV at l1 hpt
  simp only at hbo hal l1 hpt
  have hlo:List.take o.length o=o:=Yau
  have hly:(o++y1).length<=1000000000:=by
   have:=congrArg List.length hbo
   rw[<- Ya6,Yal]at this
   omega
  rw[Yal]at hly
  rcases y2 with _|_
  ·rw[Bool.false_and]at hal
   rw[if_neg (fun h=>by rw[<- hal]at h;exact absurd h.2 (by decide))]at hA
   subst hA
   have nx:=aI @e7 (aI @hd1 (aI @l1 (aI @hlo trivial)))
   refine' ZgR
   all_goals first
    |exact .inl ⟨trivial,rfl,rfl⟩
    |exact .inl ⟨rfl,rfl,rfl⟩
    |exact .inl ⟨trivial,trivial,trivial⟩
    |exact .inr ⟨2,rfl,rfl⟩
  ·rw[Bool.true_and]at hal
   rw[<- Ya6]at hbo
   have nx:=aI @e7 (aI @hd1 (aI @l1 (aI @hlo trivial)))
   refine' ZgR
   all_goals first
    |exact⟨code.length-(k+1),by omega,k+1,o++y1,by rw[T5w,Yal];rfl,by omega,hbo,hal,rfl⟩
 ·have hd1:decide ((k:Int)<(code.length:Int))=false:=Yaf (by omega)
  rw[Ya7 (by omega)]at hbo hal
  have hbo:o=ZeJ code:=by rw[<- hbo];simp[ZeJ]
  rw[if_pos ⟨h1,hal.symm⟩]at hA
  subst hA
  have nx:=aI @hd1 trivial
  refine' ZgR
  all_goals first
   |(rw[<- hbo];exact .inr ⟨2,rfl,rfl⟩)
   |exact .inr ⟨4,rfl,rfl⟩
   |exact .inr ⟨2,rfl,rfl⟩
theorem Zwq (code:List Ins)(hi: ∀i∈code,ZbM i)(hl:code.length<=1048576)(hB:(ZeJ code).length<=1000000000) :
 AC Tryz.prog 62 [.view code.length 6 (Zap code)] (fun v m=>v= .tup [.view (Zw code).1.length 1 (Zi .u8 (Zw code).1),.int .i64 (Zw code).2]/\m=[]):=by
 refine(Zsh code hi hl hB).out fun v m h=> ?_
 rcases h with⟨h0,rfl,rfl⟩|⟨k,rfl,rfl⟩
 ·refine⟨_,_,⟨rfl,rfl⟩,fun S w w' u ho=>ho.wk (Wk.tup ?_)⟩
  rw[h0]
  exact .cons (Wk.nils 1) (WkL.refl _)
 ·refine⟨_,_,⟨rfl,rfl⟩,fun S w w' u ho=> ?_⟩
  have h2:=ho.frz
  have e:ZlU k (Zi .u8 (Zw code).1) (.tup [.ref k 0 (Zw code).1.length 1,.int .i64 (Zw code).2])= .tup [.view (Zw code).1.length 1 (Zi .u8 (Zw code).1),.int .i64 (Zw code).2]:=by
   simp only[ZlU,V.frz,V.wipe,List.map_cons,List.map_nil,Ya4,cond_true,List.drop_zero,Yad (Nat.le_of_eq ((Zb .u8 (Zw code).1).trans (Nat.mul_one _).symm))]
  rw[e]at h2;exact h2
end
end Go.Proofs.YtimhmpdfioihlaaGreatDoor
namespace Go.Proofs.YtimhmpdfioihlaaGreatDoor
set_option maxRecDepth 20000
open Go Go.Abs
theorem Zzj {c:List Ins}(h:okC c):Zvy c:=Zwq c h.1 h.2.1 h.2.2
theorem Zfw (m:Mod)(hm:OkM m)(hl:LnM m):AC Tryz.prog 10 [.agg (Zb9 m)] (fun v mm=>v= .tup [.view (ZdI m).1.length 1 (Zi .u8 (ZdI m).1),.int .i64 (ZdI m).2]/\mm=[]):=by
 have hz:=hl.sz
 unfold szM at hz
 have hvs: ∀x∈m.imports,Zsm x.m/\Zsm x.n:=fun x hx=>by
  have:=ZfS (sz:=ZhT) hx
  have e:ZhT x=x.m.length+x.n.length+100:=rfl
  exact⟨ZBF _ (by omega),ZBF _ (by omega)⟩
 have hve: ∀x∈m.exports,Zsm x.n:=fun x hx=>by
  have:=ZfS (sz:=ZhU) hx
  have e:ZhU x=x.n.length+100:=rfl
  exact ZBF _ (by omega)
 refine(Zsc m hl.sz hl.ln hvs hve (fun x hx=>Zzj (hm.g x hx)) (fun x hx=>Zzj (hm.e x hx)) (fun x hx=>Zzj (hm.c x hx)) (fun x hx=>Zzj (hm.d x hx).1)).out fun v mm h=> ?_
 obtain⟨k,rfl,rfl⟩:=h
 refine⟨_,_,⟨rfl,rfl⟩,fun S w w' u ho=> ?_⟩
 have h2:=ho.frz
 have e:ZlU k (Zi .u8 (ZdI m).1) (.tup [.ref k 0 (ZdI m).1.length 1,.int .i64 (ZdI m).2])= .tup [.view (ZdI m).1.length 1 (Zi .u8 (ZdI m).1),.int .i64 (ZdI m).2]:=by
  simp only[ZlU,V.frz,V.wipe,List.map_cons,List.map_nil,Ya4,cond_true,List.drop_zero,Yad (Nat.le_of_eq ((Zb .u8 (ZdI m).1).trans (Nat.mul_one _).symm))]
 rw[e]at h2;exact h2
end Go.Proofs.YtimhmpdfioihlaaGreatDoor
namespace Go.Proofs.YtimhmpdfioihlaaGreatDoor
set_option maxRecDepth 20000
open Go Go.Abs Nat
attribute [local irreducible] AW AWL AC FW CW CWr IntKind.wrap
section
def aw3:Mod:={ ZnR with start:= -1,types:=[⟨[],[]⟩],funcs:=[0],codes:=[⟨[],[⟨11,0,0,0,0,[]⟩]⟩] }
def aw4:Mod:={ ZnR with start:= -2 }
theorem ZHY:OkM aw3:=by
 refine⟨?_,?_,?_,?_⟩
 ·intro x hx;cases hx
 ·intro x hx;cases hx
 ·intro x hx
  have hx:x∈[(⟨[],[⟨11,0,0,0,0,[]⟩]⟩:Zb8)]:=hx
  rw[List.mem_singleton]at hx
  subst hx
  refine⟨fun i hi=> ?_,by decide,by decide +kernel⟩
  have hi:i∈[(⟨11,0,0,0,0,[]⟩:Ins)]:=hi
  rw[List.mem_singleton]at hi
  subst hi
  exact⟨by decide,by decide,by decide,by decide,by decide,(fun x hx=>by cases hx),by decide⟩
 ·intro x hx;cases hx
theorem ZHZ:OkM aw4:=by
 refine⟨?_,?_,?_,?_⟩
 all_goals(intro x hx;cases hx)
open MB
theorem ZD6.cl {p:Prop}(h:p:=by
 first
  |refine AWL.frzG rfl rfl rfl ?_
  |refine AWL.cC (f:=16) ZGP rfl rfl rfl rfl rfl rfl (hls) ?_
  |refine AWL.cC (f:=10) ZCc rfl rfl rfl rfl rfl rfl (hr1) ?_
  |refine AWL.cC (f:=10) ZCc rfl rfl rfl rfl rfl rfl (hr2) ?_
 all_goals(apply_rules (newGoals:= .nonDependentOnly) only[dep];exact())):p:=h
open ZD6 ZuD in
theorem ZjQ:AC Tryz.prog 9 [] (fun r m=>r= .bool true/\m=[]):=by
 have hls:=Zyy
 have hr1:=Zfw aw3 ZHY ⟨by decide +kernel,by decide⟩
 rw[show ZdI aw3=([0,97,115,109,1,0,0,0,1,4,1,96,0,0,3,2,1,0,10,4,1,2,0,11],0)by decide +kernel]at hr1
 have hr2:=Zfw aw4 ZHZ ⟨by decide +kernel,by decide⟩
 rw[show ZdI aw4=([],1)by decide +kernel]at hr2
 have hr1:AC Tryz.prog 10 [.agg [.view 1 2 [.view 0 1 [],.view 0 1 []],.view 0 3 [],.view 1 1 [.int .i64 0],.view 0 2 [],.view 0 2 [],.view 0 3 [],.view 0 3 [],.int .i64 (-1),.view 0 2 [],.view 1 2 [.view 0 1 [],.view 1 6 [.int .i64 11,.int .i64 0,.int .i64 0,.int .u64 0,.int .u64 0,.view 0 1 []]],.view 0 2 []]] (fun v m=>v= .tup [.view 24 1 [.int .u8 0,.int .u8 97,.int .u8 115,.int .u8 109,.int .u8 1,.int .u8 0,.int .u8 0,.int .u8 0,.int .u8 1,.int .u8 4,.int .u8 1,.int .u8 96,.int .u8 0,.int .u8 0,.int .u8 3,.int .u8 2,.int .u8 1,.int .u8 0,.int .u8 10,.int .u8 4,.int .u8 1,.int .u8 2,.int .u8 0,.int .u8 11],.int .i64 0]/\m=[]):=hr1
 have hr2:AC Tryz.prog 10 [.agg [.view 0 2 [],.view 0 3 [],.view 0 1 [],.view 0 2 [],.view 0 2 [],.view 0 3 [],.view 0 3 [],.int .i64 (-2),.view 0 2 [],.view 0 2 [],.view 0 2 []]] (fun v m=>v= .tup [.view 0 1 [],.int .i64 1]/\m=[]):=hr2
 have hr2:AC Tryz.prog 10 [.agg [.nils,.nils,.nils,.nils,.nils,.nils,.nils,.int .i64 (-2),.nils,.nils,.nils]] (fun v m=>v= .tup [.view 0 1 [],.int .i64 1]/\m=[]):=
  hr2.wk (.cons (Wk.agg (.cons (Wk.nils 2) (.cons (Wk.nils 3) (.cons (Wk.nils 1) (.cons (Wk.nils 2) (.cons (Wk.nils 2) (.cons (Wk.nils 3) (.cons (Wk.nils 3) (.cons (Wk.refl _) (.cons (Wk.nils 2) (.cons (Wk.nils 2) (.cons (Wk.nils 2) .nil)))))))))))) .nil)
 refine AC.enter Tryz.func9 rfl (Yaa rfl) ?_
 simp only[Tryz.f9]
 have nx:=trivial
 refine' ZxN
 all_goals first
  |exact⟨rfl,trivial⟩
  |(refine⟨congrArg V.bool ?_,trivial⟩;rfl)
end
end Go.Proofs.YtimhmpdfioihlaaGreatDoor
namespace Go.Proofs.YtimhmpdfioihlaaGreatDoor
set_option maxRecDepth 20000
open Go Go.Abs
def rp (X:List V)(n:Nat):List V:=(List.replicate n X).flatten
theorem Zhj (X:List V): ∀n,(rp X n).length=n*X.length
 |0=>by simp[rp]
 |n+1=>by
  have:=Zhj X n
  unfold rp at *
  rw[List.replicate_succ,List.flatten_cons,Yal,this,Nat.succ_mul];omega
theorem Zia (X:List V)(n:Nat):List.take (n*X.length) (rp X n)=rp X n:=Yad (Nat.le_of_eq (Zhj X n))
theorem ZjR (X:List V)(n:Nat):rp X n++X=rp X (n+1):=by
 unfold rp
 rw[List.replicate_succ',List.flatten_append];simp
theorem ZlS (X:List V)(n:Nat):rp X (n+1)=X++rp X n:=by
 unfold rp
 rw[List.replicate_succ,List.flatten_cons]
theorem Zwr {α:Type}(C:α->List V)(x:α): ∀n,(List.replicate n x).flatMap C=rp (C x) n
 |0=>rfl
 |n+1=>by rw[List.replicate_succ,List.flatMap_cons,Zwr C x n,ZlS]
theorem Zws (k:IntKind)(x:Int): ∀n,Zi k (List.replicate n x)=rp [.int k x] n
 |0=>rfl
 |n+1=>by
  have:=Zws k x n
  unfold Zi at *
  rw[List.replicate_succ,List.map_cons,this,ZlS];rfl
theorem ZB2 {X Y:List V}(h:FkL X Y): ∀n,FkL (rp X n) (rp Y n)
 |0=>FkL.nil
 |n+1=>by rw[ZlS,ZlS];exact h.app (ZB2 h n)
theorem Zrb {α:Type}(sz:α->Nat)(x:α): ∀n,Zaa sz (List.replicate n x)=n*sz x
 |0=>by simp[Zaa]
 |n+1=>by rw[List.replicate_succ,Zaa,Zrb sz x n,Nat.succ_mul];omega
theorem ZD7 (k:IntKind)(n:Nat):Zek (Zaj (Value.int k 0)) n=Zi k (List.replicate n 0):=by
 unfold Zek Zi
 rw[List.map_replicate]
 refine List.ext_getElem (by simp) fun i h1 h2=> ?_
 rw[List.getElem_map,List.getElem_replicate,List.getElem_range]
 show List.getD [V.int k 0] (i%1) .any=_
 rw[Nat.mod_one];rfl
theorem Zpe (k:IntKind)(n:Nat):List.take n (Zek (Zaj (Value.int k 0)) n)=Zi k (List.replicate n 0):=by
 rw[ZD7];exact Yad (by rw[Zb,List.length_replicate];exact Nat.le_refl _)
def eI:List Ins:=[⟨11,0,0,0,0,[]⟩]
theorem Zwt:okC eI:=by
 refine⟨fun i hi=> ?_,by decide,by decide +kernel⟩
 have hi:i∈[(⟨11,0,0,0,0,[]⟩:Ins)]:=hi
 rw[List.mem_singleton]at hi
 subst hi
 exact⟨by decide,by decide,by decide,by decide,by decide,(fun x hx=>by cases hx),by decide⟩
def lmG (ty:List Zig)(im:List Zjy)(fu:List Int)(ex:List Zjz)(el:List ZcS)(co:List Zb8)(da:List ZbS):Mod:=⟨ty,im,fu,[],[],[],ex, -1,el,co,da⟩
theorem ZAr {ty:List Zig}{im:List Zjy}{fu:List Int}{ex:List Zjz}{el:List ZcS}{co:List Zb8}{da:List ZbS}(h1: ∀x∈el,x.c=eI)(h2: ∀x∈co,x.c=eI)(h3: ∀x∈da,x.c=eI/\bytes x.b):OkM (lmG ty im fu ex el co da):=
 ⟨(fun x hx=>by cases hx),fun x hx=>by rw[h1 x hx];exact Zwt,fun x hx=>by rw[h2 x hx];exact Zwt,fun x hx=>by rw[(h3 x hx).1];exact⟨Zwt,(h3 x hx).2⟩⟩
def ZkE:List ZbS:=[⟨eI,List.replicate 16384 0⟩]
theorem ZB3:(Zw eI).1.length=1:=by decide +kernel
theorem Zwu:Zaa ZdJ ZkE=16445:=by
 unfold ZkE Zaa Zaa ZdJ
 rw[ZB3,List.length_replicate]
theorem Zwv {m:Mod}(h:(ZfR m).bad=true):ZdI m=([],1):=by unfold ZdI;rw[if_pos h]
theorem ZfV {m:Mod}(h:(ZfR m).bad=false)(hl:(ZfR m).b.length<=16384):ZdI m=((ZfR m).b,0):=by unfold ZdI;rw[if_neg (by rw[h];exact Bool.false_ne_true),if_neg (by omega)]
theorem Zrc {m:Mod}(h:(ZfR m).bad=false)(hl:(ZfR m).b.length>16384):ZdI m=([],4):=by unfold ZdI;rw[if_neg (by rw[h];exact Bool.false_ne_true),if_pos hl]
theorem Zrd {m:Mod}{cs:List V}(hm:OkM m)(hl:LnM m)(h:WkL cs (Zb9 m)):AC Tryz.prog 10 [.agg cs] (fun v mm=>v= .tup [.view (ZdI m).1.length 1 (Zi .u8 (ZdI m).1),.int .i64 (ZdI m).2]/\mm=[]):=(Zfw m hm hl).wk (.cons (Wk.agg h) .nil)
theorem Zww {m:Mod}{cs:List V}(hm:OkM m)(hl:LnM m)(h:WkL cs (Zb9 m)):AC Tryz.prog 15 [.agg cs,.agg (Zb9 m)] (fun r mm=>r= .bool true/\mm=[]):=(Zo8 m (ZBP hm hl)).wk (.cons (Wk.agg h) (.cons (Wk.refl _) .nil))
def CC:List V:=[.nils,.view 1 6 [.int .i64 11,.int .i64 0,.int .i64 0,.int .u64 0,.int .u64 0,.nils]]
theorem ZB4:FkL [.int .i64 11,.int .i64 0,.int .i64 0,.int .u64 0,.int .u64 0,.nils] (Zap eI):= .cons (Fk.refl _) (.cons (Fk.refl _) (.cons (Fk.refl _) (.cons (Fk.refl _) (.cons (Fk.refl _) (.cons (Fk.nils 1) .nil)))))
theorem Zwx {n n' sz:Nat}{X Y:List V}(hn:n=n')(h:FkL X Y):Wk (.view n sz X) (.view n' sz Y):=hn▸Wk.view h
theorem ZB5 (nt ni nf ne nc:Nat){D:V}{da:List ZbS}(hD:Wk D (.view da.length 2 (da.flatMap Zcp))) :
 WkL [.view nt 2 (rp [.nils,.nils] nt),.view ni 3 (rp [.str [],.str [],.int .i64 0] ni),.view nf 1 (rp [.int .i64 0] nf),.view 0 2 [],.view 0 2 [],.view 0 3 [],.view ne 3 (rp [.str [],.int .i64 0,.int .i64 0] ne),.int .i64 (-1),.view 0 2 [],.view nc 2 (rp CC nc),D]
  (Zb9 (lmG (List.replicate nt ⟨[],[]⟩) (List.replicate ni ⟨[],[],0⟩) (List.replicate nf 0) (List.replicate ne ⟨[],0,0⟩) [] (List.replicate nc ⟨[],eI⟩) da)):=by
 unfold Zb9 lmG
 simp only[Zwr,Zws,List.length_replicate]
 refine .cons (Wk.view (ZB2 (.cons (Fk.nils 1) (.cons (Fk.nils 1) .nil)) _)) (.cons (Wk.refl _) (.cons (Wk.refl _) (.cons (Wk.refl _) (.cons (Wk.refl _) (.cons (Wk.refl _) (.cons (Wk.refl _) (.cons (Wk.refl _) (.cons (Wk.refl _) (.cons (Wk.view (ZB2 ?_ _)) (.cons hD .nil))))))))))
 exact .cons (Fk.nils 1) (.cons (Fk.view ZB4) .nil)
theorem ZD8:Wk (.view 0 2 []) (.view ([]:List ZbS).length 2 (([]:List ZbS).flatMap Zcp)):=Wk.refl _
theorem ZD9:Wk (.view 1 2 [.view 1 6 [.int .i64 11,.int .i64 0,.int .i64 0,.int .u64 0,.int .u64 0,.nils],.view 16384 1 (Zi .u8 (List.replicate 16384 0))]) (.view ZkE.length 2 (ZkE.flatMap Zcp)):=by
 refine Zwx rfl ?_
 unfold ZkE
 rw[List.flatMap_cons,List.flatMap_nil,List.append_nil]
 simp only[Zcp,List.length_replicate]
 exact .cons (Fk.view ZB4) (.cons (Fk.refl _) .nil)
theorem ZEa (nt ni nf ne nc:Nat){da:List ZbS}(h:da=[]\/da=ZkE)(hb:nt<=2000/\ni<=2000/\nf<=2000/\ne<=2000/\nc<=2000) :
 OkM (lmG (List.replicate nt ⟨[],[]⟩) (List.replicate ni ⟨[],[],0⟩) (List.replicate nf 0) (List.replicate ne ⟨[],0,0⟩) [] (List.replicate nc ⟨[],eI⟩) da)/\LnM (lmG (List.replicate nt ⟨[],[]⟩) (List.replicate ni ⟨[],[],0⟩) (List.replicate nf 0) (List.replicate ne ⟨[],0,0⟩) [] (List.replicate nc ⟨[],eI⟩) da):=by
 have hd: ∀x∈da,x.c=eI/\bytes x.b:=by
  rcases h with rfl|rfl
  ·intro x hx;cases hx
  ·intro x hx
   unfold ZkE at hx
   rw[List.mem_singleton]at hx
   subst hx
   refine⟨rfl,fun y hy=> ?_⟩
   rw[List.eq_of_mem_replicate hy]
   exact⟨by omega,by omega⟩
 have hz:Zaa ZdJ da<=16445:=by
  rcases h with rfl|rfl
  ·exact Nat.zero_le _
  ·exact Nat.le_of_eq Zwu
 have hl:da.length<=1:=by
  rcases h with rfl|rfl
  ·exact Nat.zero_le _
  ·exact Nat.le_refl _
 obtain⟨b1,b2,b3,b4,b5⟩:=hb
 refine⟨ZAr (fun x hx=>by cases hx) (fun x hx=>by rw[List.eq_of_mem_replicate hx]) hd,?_,?_⟩
 ·unfold szM lmG
  simp only[Zrb]
  have e1:Zgx ⟨[],[]⟩=60:=rfl
  have e2:ZhT ⟨[],[],0⟩=100:=rfl
  have e3:Zj1 0=10:=rfl
  have e4:ZhU ⟨[],0,0⟩=100:=rfl
  have e5:Zdx ⟨[],eI⟩=101:=by unfold Zdx;simp only;rw[ZB3];rfl
  rw[e1,e2,e3,e4,e5]
  simp only[Zaa]
  omega
 ·unfold lmG
  simp only[List.length_replicate,List.length_nil]
  omega
def Ev (M M':Mod)(m1:Nat):Prop:=(m1=1->(ZfR M).bad=true)/\(m1=0->((ZfR M).bad=false/\(ZfR M).b.length<=16384)/\((ZfR M').bad=false/\(ZfR M').b.length>16384))
set_option maxRecDepth 100000 in
theorem ev0 (m1:Nat)(h:m1=0\/m1=1):Ev (lmG (List.replicate (256+m1) ⟨[],[]⟩) [] [] [] [] [] []) (lmG (List.replicate (256+m1) ⟨[],[]⟩) [] [] [] [] [] ZkE) m1:=by
 rcases h with rfl|rfl
 ·exact⟨(fun h=>by cases h),fun _=>⟨by decide +kernel,by decide +kernel⟩⟩
 ·exact⟨(fun _=>by decide +kernel),(fun h=>by cases h)⟩
set_option maxRecDepth 100000 in
theorem ev1 (m1:Nat)(h:m1=0\/m1=1):Ev (lmG [⟨[],[]⟩] (List.replicate (512+m1) ⟨[],[],0⟩) [] [] [] [] []) (lmG [⟨[],[]⟩] (List.replicate (512+m1) ⟨[],[],0⟩) [] [] [] [] ZkE) m1:=by
 rcases h with rfl|rfl
 ·exact⟨(fun h=>by cases h),fun _=>⟨by decide +kernel,by decide +kernel⟩⟩
 ·exact⟨(fun _=>by decide +kernel),(fun h=>by cases h)⟩
set_option maxRecDepth 100000 in
theorem ev2 (m1:Nat)(h:m1=0\/m1=1):Ev (lmG [⟨[],[]⟩] [] (List.replicate (512+m1) 0) [] [] (List.replicate (512+m1) ⟨[],eI⟩) []) (lmG [⟨[],[]⟩] [] (List.replicate (512+m1) 0) [] [] (List.replicate (512+m1) ⟨[],eI⟩) ZkE) m1:=by
 rcases h with rfl|rfl
 ·exact⟨(fun h=>by cases h),fun _=>⟨by decide +kernel,by decide +kernel⟩⟩
 ·exact⟨(fun _=>by decide +kernel),(fun h=>by cases h)⟩
set_option maxRecDepth 100000 in
theorem ev3 (m1:Nat)(h:m1=0\/m1=1):Ev (lmG [⟨[],[]⟩] [] [] (List.replicate (512+m1) ⟨[],0,0⟩) [] [] []) (lmG [⟨[],[]⟩] [] [] (List.replicate (512+m1) ⟨[],0,0⟩) [] [] ZkE) m1:=by
 rcases h with rfl|rfl
 ·exact⟨(fun h=>by cases h),fun _=>⟨by decide +kernel,by decide +kernel⟩⟩
 ·exact⟨(fun _=>by decide +kernel),(fun h=>by cases h)⟩
theorem wE (n:Nat):Wk (.view 1 2 [.view 1 6 [.int .i64 11,.int .i64 0,.int .i64 0,.int .u64 0,.int .u64 0,.nils],.view n 1 (Zi .i64 (List.replicate n 0))]) (.view [(⟨eI,List.replicate n 0⟩:ZcS)].length 2 ([(⟨eI,List.replicate n 0⟩:ZcS)].flatMap ZcW)):=by
 refine Zwx rfl ?_
 rw[List.flatMap_cons,List.flatMap_nil,List.append_nil]
 simp only[ZcW,List.length_replicate]
 exact .cons (Fk.view ZB4) (.cons (Fk.refl _) .nil)
theorem ZEb {da:List ZbS}(h:da=[]\/da=ZkE):(∀x∈da,x.c=eI/\bytes x.b)/\Zaa ZdJ da<=16445/\da.length<=1:=by
 rcases h with rfl|rfl
 ·exact⟨(fun x hx=>by cases hx),Nat.zero_le _,Nat.zero_le _⟩
 ·refine⟨fun x hx=> ?_,Nat.le_of_eq Zwu,Nat.le_refl _⟩
  unfold ZkE at hx
  rw[List.mem_singleton]at hx
  subst hx
  refine⟨rfl,fun y hy=> ?_⟩
  rw[List.eq_of_mem_replicate hy]
  exact⟨by omega,by omega⟩
theorem ZEc {ty:List Zig}{fu:List Int}{el:List ZcS}{co:List Zb8}{da:List ZbS}(h:da=[]\/da=ZkE)(h1: ∀x∈el,x.c=eI)(h2: ∀x∈co,x.c=eI)
 (h3:Zaa Zgx ty<=100000/\ty.length<=10/\Zaa Zj1 fu<=100000/\fu.length<=10/\Zaa Zdw el<=100000/\el.length<=10/\Zaa Zdx co<=100000/\co.length<=10) :
 OkM (lmG ty [] fu [] el co da)/\LnM (lmG ty [] fu [] el co da):=by
 obtain⟨hd,hz,hl⟩:=ZEb h
 obtain⟨a1,a2,a3,a4,a5,a6,a7,a8⟩:=h3
 refine⟨ZAr h1 h2 hd,?_,?_⟩
 ·unfold szM lmG
  simp only[Zaa]
  omega
 ·unfold lmG
  simp only[List.length_nil]
  omega
theorem lm4 (n:Nat)(hn:n<=2000){da:List ZbS}(h:da=[]\/da=ZkE):OkM (lmG [⟨[],[]⟩] [] [] [] [⟨eI,List.replicate n 0⟩] [] da)/\LnM (lmG [⟨[],[]⟩] [] [] [] [⟨eI,List.replicate n 0⟩] [] da):=by
 refine ZEc h (fun x hx=> ?_) (fun x hx=>by cases hx) ?_
 ·rw[List.mem_singleton]at hx;rw[hx]
 ·have e1:Zdw ⟨eI,List.replicate n 0⟩=1+10*n+60:=by unfold Zdw;simp only[List.length_replicate];rw[ZB3]
  have e2:Zgx ⟨[],[]⟩=60:=rfl
  simp only[Zaa,e1,e2,Yag,List.length_nil]
  omega
set_option maxRecDepth 100000 in
theorem ev4 (m1:Nat)(h:m1=0\/m1=1):Ev (lmG [⟨[],[]⟩] [] [] [] [⟨eI,List.replicate (1024+m1) 0⟩] [] []) (lmG [⟨[],[]⟩] [] [] [] [⟨eI,List.replicate (1024+m1) 0⟩] [] ZkE) m1:=by
 rcases h with rfl|rfl
 ·exact⟨(fun h=>by cases h),fun _=>⟨by decide +kernel,by decide +kernel⟩⟩
 ·exact⟨(fun _=>by decide +kernel),(fun h=>by cases h)⟩
theorem ZAs (nt ni nf ne nc n:Nat){D:V}{da:List ZbS}(hD:Wk D (.view da.length 2 (da.flatMap Zcp))) :
 WkL [.view nt 2 (rp [.nils,.nils] nt),.view ni 3 (rp [.str [],.str [],.int .i64 0] ni),.view nf 1 (rp [.int .i64 0] nf),.view 0 2 [],.view 0 2 [],.view 0 3 [],.view ne 3 (rp [.str [],.int .i64 0,.int .i64 0] ne),.int .i64 (-1),.view 1 2 [.view 1 6 [.int .i64 11,.int .i64 0,.int .i64 0,.int .u64 0,.int .u64 0,.nils],.view n 1 (Zi .i64 (List.replicate n 0))],.view nc 2 (rp CC nc),D]
  (Zb9 (lmG (List.replicate nt ⟨[],[]⟩) (List.replicate ni ⟨[],[],0⟩) (List.replicate nf 0) (List.replicate ne ⟨[],0,0⟩) [⟨eI,List.replicate n 0⟩] (List.replicate nc ⟨[],eI⟩) da)):=by
 have h:=ZB5 nt ni nf ne nc hD
 unfold Zb9 lmG at h ⊢
 cases h with
 |cons h1 h=>cases h with
  |cons h2 h=>cases h with
   |cons h3 h=>cases h with
    |cons h4 h=>cases h with
     |cons h5 h=>cases h with
      |cons h6 h=>cases h with
       |cons h7 h=>cases h with
        |cons h8 h=>cases h with
         |cons h9 h=>exact .cons h1 (.cons h2 (.cons h3 (.cons h4 (.cons h5 (.cons h6 (.cons h7 (.cons h8 (.cons (wE n) h))))))))
end Go.Proofs.YtimhmpdfioihlaaGreatDoor
