/- Where sections stand in a module's bytes, in plain: beginnings, and what is read alike. -/
import Derived.Test.YtimhmpdfioihlaaGreatDoorGV6
import Derived.Test.YtimhmpdfioihlaaGreatDoorGMT1
import Derived.Test.YtimhmpdfioihlaaGreatDoorMT6w0
import Derived.Test.YtimhmpdfioihlaaGreatDoorWR2o
import Derived.Test.YtimhmpdfioihlaaGreatDoorWR2t
import Derived.Test.YtimhmpdfioihlaaGreatDoorDP
import Derived.Test.YtimhmpdfioihlaaGreatDoorGPreV
import Derived.Test.YtimhmpdfioihlaaGreatDoorGCB
set_option linter.unusedSimpArgs false
set_option linter.unusedVariables false
set_option maxHeartbeats 12800000
namespace Go.Proofs.YtimhmpdfioihlaaGreatDoor
set_option maxRecDepth 20000
open Go Go.Abs
structure Sec (b:List Int)(p:Int)(id n s t:Int):Prop where
 lt:p<b.length
 id:b.getD p.toNat 0=id
 nm:nmT b (p+1)= .ok (n,s)
 tt:t=s+n
 tl:t<=b.length
inductive Run (b:List Int):Int->Mod->Int->List Int->Int->Mod->Int->Prop
 |nil (last:Int) (m:Mod) (p:Int):Run b last m p [p] last m p
 |cons {last:Int} {m:Mod} {p l1:Int} {m1:Mod} {t:Int} {ps:List Int} {l2:Int} {m2:Mod} {q:Int} (h:Zz6 b last m p= .ok ((l1,m1),t)) (hr:Run b l1 m1 t ps l2 m2 q):Run b last m p (p::ps) l2 m2 q
def Nz {α:Type}(x:Res α):Prop:= ∀e t,x= .error (e,t)->e≠0
theorem Zbp {α:Type}(a:α)(t:Int):Nz (.ok (a,t)):=fun e t h=>by cases h
theorem Zvt {α:Type}{e:Int}(h:e≠0)(t:Int):Nz (.error (e,t):Res α):=fun e' t' h'=>by cases h';exact h
theorem Z4 {α β:Type}{x:Res α}{f:α->Int->Res β}(h:Nz x)(hf: ∀a t,Nz (f a t)):Nz (bnd x f):=by
 rcases x with⟨e,t⟩|⟨a,t⟩
 ·rw[Zn];exact Zvt (h e t rfl) t
 ·rw[Zk];exact hf a t
theorem Zbz {α:Type}{c:Prop}[Decidable c]{x y:Res α}(hx:Nz x)(hy:Nz y):Nz (if c then x else y):=by
 split
 ·exact hx
 ·exact hy
theorem Zc4 {α:Type}{c:Prop}[Decidable c]{x:Int->Res α}{t:Int}(h: ∀t,Nz (x t)):Nz (ZaT c x t):=Zbz (h t) (Zvt (by decide) t)
theorem ZeP (xs:List Int)(p:Int):Nz (Zcj xs p):=Zbz (Zvt (by decide) p) (Zbp _ _)
theorem ZjC (xs:List Int)(p:Int):Nz (nmT xs p):=Zbz (Zvt (by decide) p) (Zbp _ _)
theorem Zvu (xs:List Int)(m p:Int):Nz (Zh5 xs m p):=Z4 (ZjC xs p) fun _ t=>Zbz (Zvt (by decide) t) (Zbp _ _)
theorem ZoU (xs:List Int)(p:Int):Nz (Zg0 xs p):=Z4 (ZjC xs p) fun _ t=>Zbz (Zvt (by decide) _) (Zbp _ _)
theorem ZqF (xs:List Int)(p:Int):Nz (Zdp xs p):=Z4 (ZoU xs p) fun _ _=>Zbp _ _
theorem Zlw (xs:List Int)(p:Int):Nz (Ze3 xs p):=Z4 (ZqF xs p) fun _ _=>Zbz (Zbp _ _) (Zvt (by decide) _)
theorem Zlx (xs:List Int)(p:Int):Nz (ZcR xs p):=Z4 (ZeP xs p) fun _ _=>Zbz (Zbp _ _) (Zbz (Zvt (by decide) _) (Zvt (by decide) _))
theorem ZAb (xs:List Int)(m p:Int):Nz (Zjx xs m p):=Z4 (ZeP xs p) fun _ _=>Zbz (Zvt (by decide) _) (Z4 (Zvu _ _ _) fun _ _=>Zbz (Z4 (ZjC _ _) fun _ _=>Zbp _ _) (Zbp _ _))
theorem Zly (xs:List Int)(p:Int):Nz (Zea xs p):=by
 unfold Zea
 split
 ·rename_i c;exact Zvt c p
 ·exact Zbp _ _
theorem ZAc {α:Type}{one:Int->Res α}(h: ∀t,Nz (one t)): ∀(n:Nat) (p:Int),Nz (Zda one n p)
 |0,p=>Zbp _ _
 |n+1,p=>Z4 (h p) fun _ t=>Z4 (ZAc h n t) fun _ _=>Zbp _ _
theorem ZcD {α:Type}{xs:List Int}{m:Int}{one:Int->Res α}(h: ∀t,Nz (one t))(p:Int):Nz (Z3 xs m one p):=Z4 (Zvu _ _ _) fun _ _=>ZAc h _ _
theorem ZBi {α:Type}{xs:List Int}{f:List Int->Int->Res α}(h: ∀ys p,Nz (f ys p))(s t:Int):Nz (inT xs f s t):=by
 intro e q hq
 unfold inT at hq
 rcases hx:f (xs.take t.toNat) s with⟨e',q'⟩|⟨a,q'⟩
 ·rw[hx]at hq;cases hq;exact h _ _ _ _ hx
 ·rw[hx]at hq;cases hq
theorem Zvv (ys:List Int): ∀(n:Nat) (l:List Int) (p:Int),Nz (ZfZ ys n l p)
 |0,l,p=>Zbp _ _
 |n+1,l,p=>Z4 (Zvu _ _ _) fun _ _=>Z4 (Zlx _ _) fun _ _=>Zvv ys n _ _
theorem ZBj (ys:List Int)(p:Int):Nz (Zlk ys p):=Z4 (ZjC _ _) fun _ _=>Z4 (Zvv _ _ _ _) fun _ _=>Z4 (Zly _ _) fun _ _=>Zc4 fun _=>Zbp _ _
theorem ZDr (ys:List Int)(id:Int)(m:Mod)(p:Int):Nz (Znj ys id m p):=
 Zbz (Z4 (ZcD (fun t=>Z4 (ZeP _ _) fun _ _=>Zc4 fun _=>Z4 (ZcD (Zlx ys) _) fun _ _=>Z4 (ZcD (Zlx ys) _) fun _ _=>Zbp _ _) _) fun _ _=>Zbp _ _)
 (Zbz (Z4 (ZcD (fun t=>Z4 (Zlw _ _) fun _ _=>Z4 (Zlw _ _) fun _ _=>Z4 (ZeP _ _) fun _ _=>Zc4 fun _=>Z4 (ZjC _ _) fun _ _=>Zbp _ _) _) fun _ _=>Zbp _ _)
 (Zbz (Z4 (ZcD (ZjC ys) _) fun _ _=>Zbp _ _)
 (Zbz (Z4 (ZcD (fun t=>Z4 (ZeP _ _) fun _ _=>Zc4 fun _=>ZAb _ _ _) _) fun _ _=>Zbp _ _)
 (Zbz (Z4 (ZcD (fun t=>ZAb _ _ _) _) fun _ _=>Zbp _ _)
 (Zbz (Z4 (ZcD (fun t=>Z4 (Zlx _ _) fun _ _=>Z4 (ZeP _ _) fun _ _=>Zc4 fun _=>Z4 (Zly _ _) fun _ _=>Zbp _ _) _) fun _ _=>Zbp _ _)
 (Zbz (Z4 (ZcD (fun t=>Z4 (Zlw _ _) fun _ _=>Z4 (ZeP _ _) fun _ _=>Zc4 fun _=>Z4 (ZjC _ _) fun _ _=>Zbp _ _) _) fun _ _=>Zbp _ _)
 (Zbz (Z4 (ZjC _ _) fun _ _=>Zbp _ _)
 (Zbz (Z4 (ZcD (fun t=>Z4 (ZjC _ _) fun _ _=>Zc4 fun _=>Z4 (Zly _ _) fun _ _=>Z4 (ZcD (ZjC ys) _) fun _ _=>Zbp _ _) _) fun _ _=>Zbp _ _)
 (Zbz (Z4 (ZcD (fun t=>Z4 (ZoU _ _) fun s t=>ZBi ZBj s t) _) fun _ _=>Zbp _ _)
 (Zbz (Z4 (ZcD (fun t=>Z4 (ZjC _ _) fun _ _=>Zc4 fun _=>Z4 (Zly _ _) fun _ _=>Z4 (ZqF _ _) fun _ _=>Zbp _ _) _) fun _ _=>Zbp _ _)
 (Zbp _ _)))))))))))
theorem ZBk (xs:List Int)(last:Int)(m:Mod)(p:Int):Nz (Zz6 xs last m p):=
 Z4 (ZeP _ _) fun _ _=>Z4 (ZoU _ _) fun s t=>Zbz (ZBi (fun ys p=>Z4 (Zlw _ _) fun _ _=>Zbp _ _) _ _) (ZBi (fun ys p=>Zc4 fun _=>Z4 (ZDr _ _ _ _) fun _ _=>Zc4 fun _=>Zbp _ _) _ _)
theorem Zvw (xs:List Int): ∀(n:Nat) (last:Int) (m:Mod) (p:Int),Nz (Zf0 xs n last m p)
 |0,_,_,_=>Zbp _ _
 |n+1,last,m,p=>Zbz (Z4 (ZBk _ _ _ _) fun _ _=>Zvw xs n _ _ _) (Zbp _ _)
theorem Zvx (xs:List Int): ∀(l:List Int) (p:Int),Nz (Zih xs l p)
 |[],p=>Zbp _ _
 |c::l,p=>Z4 (ZeP _ _) fun _ _=>Zc4 fun t=>Zvx xs l t
theorem ZFI (xs:List Int):Nz (Zu9 xs):=Z4 (Zvx _ _ _) fun _ _=>Z4 (Zvw _ _ _ _ _) fun _ _=>Zc4 fun _=>Zbp _ _
theorem ZyG {b:List Int}(h:(Zkx b).2=0):b.length<=16384/\ ∃t,Zu9 b= .ok ((Zkx b).1,t):=by
 unfold Zkx at h ⊢
 split
 ·rename_i c
  rw[if_pos c]at h;cases h
 ·rename_i c
  rw[if_neg c]at h
  refine⟨by omega,?_⟩
  rcases hx:Zu9 b with⟨e,t⟩|⟨m,t⟩
  ·rw[hx]at h;exact absurd h (ZFI b e t hx)
  ·exact⟨t,rfl⟩
theorem ZyH (out:List Int)(ho:out.length<=1000000000)(i:Ins)(hi:ZbM i)(form:Int) :
 AM Tryz.prog 132 [.ref 0 0 out.length 1,.agg (ZgV i),.int .i64 form] [(0,⟨true,Zi .u8 out⟩)] [] (fun v m=>v= .tup [.ref 6 0 (Zam out i form).1.length 1,.bool (Zam out i form).2]/\m=[(6,⟨true,Zi .u8 (Zam out i form).1⟩)]):=by
 by_cases h:form=13
 ·subst h
  exact ZAV out ho i hi
 ·exact ZC2 out ho i hi form h
def T8w (i:Ins)(z:Zm5)(o:List Int):St:={ n:=185,slots:=[(1,.ptr 1 0),(4,.ptr 4 0),(5,.bool true),(6,.ref 6 0 o.length 1)],mem:=[(1,⟨false,[.int .i64 i.op,.int .i64 i.a,.int .i64 i.b,.int .u64 i.lo,.int .u64 i.hi,.view i.l.length 1 (Zi .i64 i.l)]⟩),(4,⟨false,[.int .i64 z.1,.int .i64 z.2.1,.bool z.2.2.1,.view z.2.2.2.1.length 1 (Zi .i64 z.2.2.2.1),.view z.2.2.2.2.length 1 (Zi .i64 z.2.2.2.2)]⟩),(6,⟨true,Zi .u8 o⟩)] }
def S1w (x:Nat)(i:Ins)(N:Nat)(o:List Int):St:={ n:=185,slots:=[(1,.ptr 1 0),(x,.ref 6 0 N 1)],mem:=[(1,⟨false,[.int .i64 i.op,.int .i64 i.a,.int .i64 i.b,.int .u64 i.lo,.int .u64 i.hi,.view i.l.length 1 (Zi .i64 i.l)]⟩),(6,⟨true,Zi .u8 o⟩)] }
def S2w (x y:Nat)(b:Bool)(i:Ins)(N:Nat)(o:List Int):St:={ n:=185,slots:=[(1,.ptr 1 0),(x,.ref 6 0 N 1),(y,.bool b)],mem:=[(1,⟨false,[.int .i64 i.op,.int .i64 i.a,.int .i64 i.b,.int .u64 i.lo,.int .u64 i.hi,.view i.l.length 1 (Zi .i64 i.l)]⟩),(6,⟨true,Zi .u8 o⟩)] }
theorem ZcU (n:Int):(uB n).length<=10:=by
 unfold uB
 exact Ziw 9 _ (by simp only[Nat.reduceAdd,Nat.reduceMul,Nat.reducePow];omega)
theorem ZDs (n:Int):uB (n%18446744073709551616)=uB n:=by unfold uB;rw[Int.emod_emod_of_dvd n (Int.dvd_refl _)]
theorem Zlz (n:Int):(opB n).length<=11:=by
 unfold opB;split
 ·have:=ZcU (n-64768);simp only[Yag];omega
 ·simp
theorem ZoV (n:Int):AC Tryz.prog 60 [.view 1 1 (Zi .u64 [n%18446744073709551616])] (fun r m=>r= .view (uB n).length 1 (Zi .u8 (uB n))/\m=[]):=by
 have:=ZHD (n%18446744073709551616) ⟨by omega,by omega⟩
 rw[ZDs]at this
 exact this
def ZAd (A:List Int×Bool)(v:V)(m:List (Nat×List V)):Prop:=
 (A.1=[]/\v= .tup [.nils,.bool A.2]/\m=[])\/ ∃k,v= .tup [.ref k 0 A.1.length 1,.bool A.2]/\m=[(k,Zi .u8 A.1)]
def SLo:TypeId->List (Nat×Nat):=fun t=>if t=64 then[(0,1)]else SL t
theorem ZjT:SLo 2=[]/\SLo 3=[]/\SLo 4=[]/\SLo 5=[]/\SLo 9=[]/\SLo 12=[]/\SLo 20=[]/\SLo 22=[]/\SLo 23=[]/\SLo 24=[(0,1)]/\SLo 25=[]/\SLo 26=[]/\SLo 27=[]/\SLo 28=[]/\SLo 29=[]/\SLo 30=[]/\SLo 32=[]/\SLo 34=[]/\SLo 35=[]/\SLo 44=[]/\SLo 45=[]/\SLo 47=[]/\SLo 48=[]/\SLo 50=[(5,1)]/\SLo 51=[]/\SLo 53=[(0,1)]/\SLo 55=[]/\SLo 57=[]/\SLo 59=[]/\SLo 62=[]/\SLo 64=[(0,1)]/\SLo 77=[]/\SLo 82=[]/\SLo 96=[]/\SLo 98=[]/\SLo 100=[]/\SLo 140=[]/\SLo 142=[]/\SLo 147=[]/\SLo 148=[]/\SLo 152=[]/\SLo 169=[(3,1),(4,1)]/\SLo 179=[]/\SLo 182=[]/\SLo 183=[]/\SLo 185=[]/\SLo 188=[]/\SLo 192=[]/\SLo 194=[(2,1)]/\SLo 209=[]/\SLo 216=[]/\SLo 221=[]:=⟨rfl,rfl,rfl,rfl,rfl,rfl,rfl,rfl,rfl,rfl,rfl,rfl,rfl,rfl,rfl,rfl,rfl,rfl,rfl,rfl,rfl,rfl,rfl,rfl,rfl,rfl,rfl,rfl,rfl,rfl,rfl,rfl,rfl,rfl,rfl,rfl,rfl,rfl,rfl,rfl,rfl,rfl,rfl,rfl,rfl,rfl,rfl,rfl,rfl,rfl,rfl,rfl⟩
structure Ow where
 b:List Int
 bad:Bool
def owM (k ko:Nat)(o:Ow):Mem:=[(k,⟨false,[.ref ko 0 o.b.length 1,.bool o.bad]⟩),(ko,⟨true,Zi .u8 o.b⟩)]
def Zy (c:Bool)(o:Ow):Ow:=⟨o.b,o.bad|| !c⟩
def Z6 (l:List Int)(o:Ow):Ow:=⟨o.b++l,o.bad⟩
def Zaf (n:Int):Bool:=decide (n>=0)&&decide (n<4294967296)
def ZBl (n:Int)(o:Ow):Ow:=⟨o.b++uB n,o.bad|| !(Zaf n)⟩
def Z9:List Int->Ow->Ow
 |[],o=>o
 |n::l,o=>Z9 l (ZBl n o)
def ZbT (n:Int):Bool:=n==127||n==126||n==123
def Zj0 (n:Int)(o:Ow):Ow:=⟨o.b++[IntKind.u8.wrap n],o.bad|| !(ZbT n)⟩
def ZbI:List Int->Ow->Ow
 |[],o=>o
 |n::l,o=>ZbI l (Zj0 n o)
theorem Zq (l:List Int): ∀o,(Z9 l o).b.length<=o.b.length+10*l.length:=by
 induction l with
 |nil=>intro o;exact Nat.le_refl _
 |cons n l ih=>
  intro o
  have h:=ih (ZBl n o)
  have h2:=ZcU n
  have:(ZBl n o).b.length=o.b.length+(uB n).length:=Yal
  simp only[Z9,Yag]
  omega
theorem Zb6 (l:List Int): ∀o,(ZbI l o).b.length=o.b.length+l.length:=by
 induction l with
 |nil=>intro o;rfl
 |cons n l ih=>
  intro o
  have:(Zj0 n o).b.length=o.b.length+1:=by simp[Zj0]
  simp only[ZbI,Yag,ih,this]
  omega
structure Emp (last:Int)(m:Mod):Prop where
 t:last<1->m.types=[]
 f:last<3->m.funcs=[]
 c:last<10->m.codes=[]
end Go.Proofs.YtimhmpdfioihlaaGreatDoor
namespace Go.Proofs.YtimhmpdfioihlaaGreatDoor
set_option maxRecDepth 20000
open Go Go.Abs Nat
attribute [local irreducible] AW AWL AC FW CW CWr IntKind.wrap
open MB
open Zgn Zm in
theorem Zat (o:Ow)(c:Bool):AM Tryz.prog 17 [.ptr 0 0,.bool c] (owM 0 1000 o) [0] (fun r m=>r= .tup []/\m=owM 0 1000 (Zy c o)):=by
 obtain⟨b,bad⟩:=o
 unfold owM Zy
 simp only
 refine AM.enter Tryz.func17 rfl (Yaa rfl) (fun pn=> ?_)
 simp only[Tryz.f17]
 cases bad<;>cases c
 all_goals
  have nx:=trivial
  refine' ZxC
  all_goals first|exact⟨trivial,trivial⟩|exact⟨rfl,trivial⟩|exact⟨rfl,rfl⟩|exact⟨trivial,rfl⟩|(exfalso;omega)|trace_state
open Zgn Zm in
theorem Zbq (o:Ow)(l:List Int)(hl:o.b.length+l.length<=1000000000):AM Tryz.prog 20 [.ptr 0 0,.view l.length 1 (Zi .u8 l)] (owM 0 1000 o) [0] (fun r m=>r= .tup []/\m=owM 0 1000 (Z6 l o)):=by
 obtain⟨b,bad⟩:=o
 simp only at hl
 have h1:List.take b.length (Zi .u8 b)=Zi .u8 b:=Yad (by rw[Zb];exact Nat.le_refl _)
 have h2:Zi .u8 b++Zi .u8 l=Zi .u8 (b++l):=by simp only[Zi,List.map_append]
 have h3:(b++l).length=b.length+l.length:=Yal
 unfold owM Z6
 simp only[h3]
 refine AM.enter Tryz.func20 rfl (Yaa rfl) (fun pn=> ?_)
 simp only[Tryz.f20]
 have nx:=aI @h1 (aI @h2 trivial)
 refine' Zxz
 all_goals first|exact⟨trivial,trivial⟩|exact⟨rfl,trivial⟩|exact⟨rfl,rfl⟩|exact⟨trivial,rfl⟩|(exfalso;omega)|trace_state
end Go.Proofs.YtimhmpdfioihlaaGreatDoor
namespace Go.Proofs.YtimhmpdfioihlaaGreatDoor
set_option maxRecDepth 20000
open Go Go.Abs
structure SmC (c:List Ins):Prop where
 n:c.length<=1000000000000
 l: ∀i∈c,i.l.length<=1000000000000
structure SmM (m:Mod):Prop where
 ty:m.types.length<=1000000000000
 tys: ∀s∈m.types,s.i.length<=1000000000000/\s.o.length<=1000000000000
 im:m.imports.length<=1000000000000
 fu:m.funcs.length<=1000000000000
 ta:m.tables.length<=1000000000000
 me:m.mems.length<=1000000000000
 gl:m.globals.length<=1000000000000
 gls: ∀g∈m.globals,SmC g.c
 ex:m.exports.length<=1000000000000
 el:m.elems.length<=1000000000000
 els: ∀e∈m.elems,SmC e.c/\e.f.length<=1000000000000
 co:m.codes.length<=1000000000000
 cos: ∀c∈m.codes,c.l.length<=1000000000000/\SmC c.c
 da:m.datas.length<=1000000000000
 das: ∀d∈m.datas,SmC d.c/\bytes d.b
end Go.Proofs.YtimhmpdfioihlaaGreatDoor
namespace Go.Proofs.YtimhmpdfioihlaaGreatDoor
set_option maxRecDepth 20000
open Go Go.Abs Nat
attribute [local irreducible] AW AWL AC FW CW CWr IntKind.wrap
section
def Nn (pn:Nat->Option BI)(o:Ow)(l:List Int)(k:Nat):St:={ n:=33,slots:=[(0,.ptr 0 0),(6,.view l.length 1 (Zi .i64 l)),(7,.int .i64 (l.length:Int)),(8,.int .i64 (k:Int))],mem:=owM 0 1000 o,lent:=[(0,pn 0),(1000,none)] }
theorem ZHJ.NM:type_of% @MB.NM/\type_of% @owM.eq_1/\type_of% @Nn.eq_1:=
 ⟨MB.NM,@owM.eq_1,@Nn.eq_1⟩
open ZHJ
theorem ZDt.cl {p:Prop}(h:p:=by
 first
  |refine AWL.cM (f:=17) [(0,0),(1000,1000)] Zrv rfl rfl rfl rfl rfl rfl rfl (hmust) ?_
  |refine AWL.frzG rfl rfl rfl ?_
  |refine AWL.cC (f:=60) Zkn rfl rfl rfl rfl rfl rfl (hpu) ?_
 all_goals(apply_rules (newGoals:= .nonDependentOnly) only[dep];exact())):p:=h
theorem ZDt.att {p:Prop}(h:p:=by
 first
  |(first|(refine AT.takeM (L:=(bA 13 0)) (L':=(bA 13 1)) 0 rfl rfl rfl rfl rfl Zbt (by decide +kernel) (by decide +kernel) ?_;(try refine' Zf))|(refine AT.takeM (L:=(bA 13 1)) (L':=(bA 13 3)) 1 rfl rfl rfl rfl rfl Zbt (by decide +kernel) (by decide +kernel) ?_;(try refine' Zf))|(refine AT.takeN (L:=(bA 13 3)) (L':=(bA 13 7)) 2 rfl rfl rfl rfl rfl rfl Zbt (by decide +kernel) (by decide +kernel) ?_;(try refine' Zf))|(refine AT.takeF (L:=(bA 13 7)) (L':=(bA 13 15)) 3 rfl rfl rfl rfl rfl rfl rfl rfl Zbt (by decide +kernel) (by decide +kernel) ?_;(try refine' Zf))|(refine AT.takeM (L:=(bA 13 15)) (L':=(bA 13 47)) 5 rfl rfl rfl rfl rfl Zbt (by decide +kernel) (by decide +kernel) ?_;(try refine' Zf))|refine AT.step (L:=(bA 13 47)) [4,6] (by decide +kernel) (by decide) (Z8 ⟨_,(bA 13 63),rfl,(by decide +kernel),?_⟩ ⟨_,(bA 13 111),rfl,(by decide +kernel),?_⟩)|refine AT.step (L:=(bA 13 111)) [4,7] (by decide +kernel) (by decide) (Z8 ⟨_,(bA 13 127),rfl,(by decide +kernel),?_⟩ ⟨_,(bA 13 239),rfl,(by decide +kernel),?_⟩)|refine AT.step (L:=(bA 13 239)) [4,8] (by decide +kernel) (by decide) (Z8 ⟨_,(bA 13 255),rfl,(by decide +kernel),?_⟩ ⟨_,(bA 13 495),rfl,(by decide +kernel),?_⟩)|refine AT.step (L:=(bA 13 495)) [4] (by decide +kernel) (by decide) (Zr ⟨_,(bA 13 511),rfl,(by decide +kernel),?_⟩)|refine AT.step (L:=(bA 13 511)) [9] (by decide +kernel) (by decide) (Zr ⟨_,(bA 13 1023),rfl,(by decide +kernel),?_⟩)|(refine AT.takeN (L:=(bA 13 1023)) (L':=(bA 13 2047)) 10 rfl rfl rfl rfl rfl rfl Zbt (by decide +kernel) (by decide +kernel) ?_;(try refine' Zf))|(refine AT.takeF (L:=(bA 13 2047)) (L':=(bA 13 4095)) 11 rfl rfl rfl rfl rfl rfl rfl rfl Zbt (by decide +kernel) (by decide +kernel) ?_;(try refine' Zf))|refine AT.step (L:=(bA 13 4095)) [12] (by decide +kernel) (by decide) (Zr ⟨_,(bA 13 8191),rfl,(by decide +kernel),?_⟩)|refine AT.done (L:=(bA 13 8191)) (by decide +kernel) ?_|refine AT.step (L:=(bA 13 255)) [8] (by decide +kernel) (by decide) (Zr ⟨_,(bA 13 511),rfl,(by decide +kernel),?_⟩)|refine AT.step (L:=(bA 13 127)) [7] (by decide +kernel) (by decide) (Zr ⟨_,(bA 13 255),rfl,(by decide +kernel),?_⟩)|refine AT.step (L:=(bA 13 63)) [6] (by decide +kernel) (by decide) (Zr ⟨_,(bA 13 127),rfl,(by decide +kernel),?_⟩))
 all_goals(apply_rules (newGoals:= .nonDependentOnly) only[dep];exact())):p:=h
open ZDt ZuC Zm in
theorem Zai (o:Ow)(l:List Int)(hl:o.b.length+10*l.length<=1000000000):AM Tryz.prog 21 [.ptr 0 0,.view l.length 1 (Zi .i64 l)] (owM 0 1000 o) [0] (fun r m=>r= .tup []/\m=owM 0 1000 (Z9 l o)):=by
 obtain⟨Y,hY⟩: ∃Y,Z9 l o=Y:=⟨_,rfl⟩
 rw[hY]
 have hY:Z9 (l.drop 0) o=Y:=hY
 have hmust:True:=trivial
 have hpu:True:=trivial
 refine AM.enter Tryz.func21 rfl (Yaa rfl) (fun pn=> ?_)
 simp only[Tryz.f21]
 have nx:=trivial
 refine' ZfC
 refine AW.loop [0,6,7,8] [0,1000] (fun m st=> ∃(k:Nat) (o2:Ow),st=Nn pn o2 l k/\k<=l.length/\o2.b.length+10*(l.length-k)<=1000000000/\Z9 (l.drop k) o2=Y/\m=l.length-k) ?_ ?_
 ·exact⟨_,0,o,rfl,Nat.zero_le _,by omega,hY,rfl⟩
 clear hY hmust hpu
 rintro m st ⟨k,o2,rfl,hk,hb,hY,rfl⟩
 by_cases hkl:k<l.length
 ·have d1:decide ((k:Int)<(l.length:Int))=true:=Yae (by omega)
  have e7:IntKind.i64.wrap ((k:Int)+1)=((k+1:Nat):Int):=Zc _ (by omega) (by omega)
  have hdr:l.drop k=l.getD k 0::l.drop (k+1):=ZbQ hkl
  rw[hdr,Z9]at hY
  generalize hx:l.getD k 0=n at hY
  have hmust:=Zat o2 (Zaf n)
  have hpu:=ZoV n
  have eu:IntKind.u64.wrap n=n%18446744073709551616:=Zj (k:= .u64) rfl _
  have h4:=ZcU n
  have hcut:List.take o2.b.length (Zi .u8 o2.b)=Zi .u8 o2.b:=Yad (by rw[Zb];exact Nat.le_refl _)
  have hap:Zi .u8 o2.b++Zi .u8 (uB n)=Zi .u8 (o2.b++uB n):=by simp only[Zi,List.map_append]
  have hle:(o2.b++uB n).length=o2.b.length+(uB n).length:=Yal
  have hbk:(ZBl n o2).b.length+10*(l.length-(k+1))<=1000000000:=by
   show(o2.b++uB n).length+_<=_
   omega
  obtain⟨b2,bad2⟩:=o2
  unfold owM Zy at hmust
  simp only at hcut hap hle hmust hb
  have hc:(decide (n>=0)=true/\decide (n<4294967296)=true/\Zaf n=true)\/(decide (n>=0)=true/\decide (n<4294967296)=false/\Zaf n=false)\/(decide (n>=0)=false/\Zaf n=false):=by
   unfold Zaf
   cases decide (n>=0)
   ·exact .inr (.inr ⟨rfl,rfl⟩)
   ·cases decide (n<4294967296)
    ·exact .inr (.inl ⟨rfl,rfl,rfl⟩)
    ·exact .inl ⟨rfl,rfl,rfl⟩
  rcases hc with⟨g1,g2,g3⟩|⟨g1,g2,g3⟩|⟨g1,g3⟩
  case' inr.inr=>have g2:True:=trivial
  all_goals
   rw[g3]at hmust
   have hb2:b2.length+(uB n).length<=1000000000:=by omega
   clear hb
   have nx:=aI @d1 (aI @g1 (aI @g2 (aI @hx trivial)))
   refine' ZxQ
   refine AW.drawT (L0:=(bA 13 0)) (by decide +kernel) Zjo ?_
   have nx:=aI @eu (aI @hcut (aI @hap trivial))
   refine' ZxH
   all_goals
    (repeat (first|refine QEq.mp (by assumption) ?_|simp only[Zbd,Go.Abs.blockQ,↓reduceIte,Nat.reduceEqDiff]))
    have nx:=aI @e7 trivial
    refine' ZfC
    all_goals refine⟨l.length-(k+1),by omega,k+1,ZBl n ⟨b2,bad2⟩,?_,by omega,hbk,hY,rfl⟩
    all_goals first
     |(rw[Nn,owM,ZBl,g3];simp only[hle,Bool.not_true,Bool.not_false,Bool.or_false,Bool.or_true];rfl)
 ·have d1:decide ((k:Int)<(l.length:Int))=false:=Yaf (by omega)
  obtain rfl:k=l.length:=by omega
  rw[Ya7 (Nat.le_refl _),Z9]at hY
  subst hY
  have hmust:True:=trivial
  have hpu:True:=trivial
  obtain⟨b2,bad2⟩:=o2
  have nx:=aI @d1 trivial
  refine' ZfC
  all_goals first|exact⟨trivial,trivial⟩|exact⟨rfl,trivial⟩|exact⟨rfl,rfl⟩|exact⟨trivial,rfl⟩|(exfalso;omega)|trace_state
end
section
def Nk (pn:Nat->Option BI)(o:Ow)(l:List Int)(k:Nat):St:={ n:=30,slots:=[(0,.ptr 0 0),(6,.view l.length 1 (Zi .i64 l)),(7,.int .i64 (l.length:Int)),(8,.int .i64 (k:Int))],mem:=owM 0 1000 o,lent:=[(0,pn 0),(1000,none)] }
theorem ZHK.NM:type_of% @MB.NM/\type_of% @owM.eq_1/\type_of% @Nk.eq_1:=
 ⟨MB.NM,@owM.eq_1,@Nk.eq_1⟩
open ZHK
theorem ZFJ.cl {p:Prop}(h:p:=by
 first
  |refine AWL.cM (f:=17) [(0,0),(1000,1000)] Zrv rfl rfl rfl rfl rfl rfl rfl (hmust) ?_
  |refine AWL.cM (f:=20) [(0,0),(1000,1000)] ZwD rfl rfl rfl rfl rfl rfl rfl (hbyt) ?_
  |refine AWL.frzG rfl rfl rfl ?_
 all_goals(apply_rules (newGoals:= .nonDependentOnly) only[dep];exact())):p:=h
open ZFJ ZuC Zm in
theorem Zg9 (o:Ow)(l:List Int)(hl:o.b.length+l.length<=1000000000):AM Tryz.prog 22 [.ptr 0 0,.view l.length 1 (Zi .i64 l)] (owM 0 1000 o) [0] (fun r m=>r= .tup []/\m=owM 0 1000 (ZbI l o)):=by
 obtain⟨Y,hY⟩: ∃Y,ZbI l o=Y:=⟨_,rfl⟩
 rw[hY]
 have hY:ZbI (l.drop 0) o=Y:=hY
 have hmust:True:=trivial
 have hbyt:True:=trivial
 refine AM.enter Tryz.func22 rfl (Yaa rfl) (fun pn=> ?_)
 simp only[Tryz.f22]
 have nx:=trivial
 refine' ZfC
 refine AW.loop [0,6,7,8] [0,1000] (fun m st=> ∃(k:Nat) (o2:Ow),st=Nk pn o2 l k/\k<=l.length/\o2.b.length+(l.length-k)<=1000000000/\ZbI (l.drop k) o2=Y/\m=l.length-k) ?_ ?_
 ·exact⟨_,0,o,rfl,Nat.zero_le _,by omega,hY,rfl⟩
 clear hY hmust hbyt
 rintro m st ⟨k,o2,rfl,hk,hb,hY,rfl⟩
 by_cases hkl:k<l.length
 ·have d1:decide ((k:Int)<(l.length:Int))=true:=Yae (by omega)
  have e7:IntKind.i64.wrap ((k:Int)+1)=((k+1:Nat):Int):=Zc _ (by omega) (by omega)
  have hdr:l.drop k=l.getD k 0::l.drop (k+1):=ZbQ hkl
  rw[hdr,ZbI]at hY
  generalize hx:l.getD k 0=n at hY
  have hmust:=Zat o2 (ZbT n)
  have hbyt:=Zbq (Zy (ZbT n) o2) [IntKind.u8.wrap n] (by show o2.b.length+1<=_;omega)
  have hbk:(Zj0 n o2).b.length+(l.length-(k+1))<=1000000000:=by
   show(o2.b++[IntKind.u8.wrap n]).length+_<=_
   rw[Yal,List.length_singleton]
   omega
  have hle:(o2.b++[IntKind.u8.wrap n]).length=o2.b.length+1:=by rw[Yal,List.length_singleton]
  obtain⟨b2,bad2⟩:=o2
  unfold Zy Z6 owM at hbyt
  unfold owM Zy at hmust
  simp only at hle hmust hb hbyt
  have hc:((n==127)=true/\ZbT n=true)\/((n==127)=false/\(n==126)=true/\ZbT n=true)\/((n==127)=false/\(n==126)=false/\(n==123)=ZbT n):=by
   unfold ZbT
   cases (n==127)
   ·cases (n==126)
    ·exact .inr (.inr ⟨rfl,rfl,rfl⟩)
    ·exact .inr (.inl ⟨rfl,rfl,rfl⟩)
   ·exact .inl ⟨rfl,rfl⟩
  generalize hK:ZbT n=K at hc hmust hbyt
  rcases hc with⟨g1,rfl⟩|⟨g1,g2,rfl⟩|⟨g1,g2,g3⟩
  case' inl=>
   have g2:True:=trivial
   have g3:True:=trivial
  case' inr.inl=>have g3:True:=trivial
  all_goals
   (try simp only[Bool.not_true,Bool.not_false,Bool.or_false,Bool.or_true]at hbyt)
   clear hb
   have nx:=aI @d1 (aI @g1 (aI @g2 (aI @g3 (aI @hx (aI @e7 trivial)))))
   refine' ZfC
   all_goals refine⟨l.length-(k+1),by omega,k+1,Zj0 n ⟨b2,bad2⟩,?_,by omega,hbk,hY,rfl⟩
   all_goals first
    |(rw[Nk,owM,Zj0,hK];simp only[hle,Bool.not_true,Bool.not_false,Bool.or_false,Bool.or_true];rfl)
 ·have d1:decide ((k:Int)<(l.length:Int))=false:=Yaf (by omega)
  obtain rfl:k=l.length:=by omega
  rw[Ya7 (Nat.le_refl _),ZbI]at hY
  subst hY
  have hmust:True:=trivial
  have hbyt:True:=trivial
  obtain⟨b2,bad2⟩:=o2
  have nx:=aI @d1 trivial
  refine' ZfC
  all_goals first|exact⟨trivial,trivial⟩|exact⟨rfl,trivial⟩|exact⟨rfl,rfl⟩|exact⟨trivial,rfl⟩|(exfalso;omega)|trace_state
end
section
def Zvy (code:List Ins):Prop:=AC Tryz.prog 62 [.view code.length 6 (Zap code)] (fun v m=>v= .tup [.view (Zw code).1.length 1 (Zi .u8 (Zw code).1),.int .i64 (Zw code).2]/\m=[])
def ZeQ (code:List Ins)(o:Ow):Ow:=Z6 (Zw code).1 (Zy ((Zw code).2==0) o)
theorem ZHL.NM:type_of% @MB.NM/\type_of% @owM.eq_1:=
 ⟨MB.NM,@owM.eq_1⟩
open ZHL
theorem ZFK.cl {p:Prop}(h:p:=by
 first
  |refine AWL.cM (f:=17) [(0,0),(1000,1000)] Zrv rfl rfl rfl rfl rfl rfl rfl (hmust) ?_
  |refine AWL.frzG rfl rfl rfl ?_
  |refine AWL.cC (f:=62) ZHc rfl rfl rfl rfl rfl rfl (hw) ?_
 all_goals(apply_rules (newGoals:= .nonDependentOnly) only[dep];exact())):p:=h
open ZFK ZhJ Zm in
theorem Ziz (o:Ow)(code:List Ins)(hw:Zvy code)(hl:o.b.length+(Zw code).1.length<=1000000000):AM Tryz.prog 39 [.ptr 0 0,.view code.length 6 (Zap code)] (owM 0 1000 o) [0] (fun r m=>r= .tup []/\m=owM 0 1000 (ZeQ code o)):=by
 unfold Zvy at hw
 unfold ZeQ
 generalize (Zw code).1=wb at hw hl ⊢
 generalize (Zw code).2=we at hw ⊢
 generalize Zap code=cc at hw ⊢
 obtain⟨c,hc⟩: ∃c,(we==0)=c:=⟨_,rfl⟩
 rw[hc]
 have hmust:=Zat o c
 have hlm:(Zy c o).b.length=o.b.length:=rfl
 generalize Zy c o=o1 at hmust hlm ⊢
 have hb3:o1.b.length+wb.length<=1000000000:=by omega
 obtain⟨b,bad⟩:=o
 obtain⟨b3,bad3⟩:=o1
 have hcut:List.take b3.length (Zi .u8 b3)=Zi .u8 b3:=Yad (by rw[Zb];exact Nat.le_refl _)
 have hap:Zi .u8 b3++Zi .u8 wb=Zi .u8 (b3++wb):=by simp only[Zi,List.map_append]
 have hle:(b3++wb).length=b3.length+wb.length:=Yal
 unfold owM at hmust
 unfold owM Z6
 simp only[hle]at hmust hb3 ⊢
 refine AM.enter Tryz.func39 rfl (Yaa rfl) (fun pn=> ?_)
 simp only[Tryz.f39]
 clear hlm hl
 have nx:=aI @hc (aI @hcut (aI @hap trivial))
 refine' Zcf
 all_goals first|exact⟨trivial,trivial⟩|exact⟨rfl,trivial⟩|exact⟨rfl,rfl⟩|exact⟨trivial,rfl⟩|(exfalso;omega)|trace_state
end
end Go.Proofs.YtimhmpdfioihlaaGreatDoor
