/- What is read of a module can be written, in no more bytes. -/
import Derived.Test.YtimhmpdfioihlaaGreatDoorGV6
import Derived.Test.YtimhmpdfioihlaaGreatDoorGEN6
import Derived.Test.YtimhmpdfioihlaaGreatDoorDP
import Derived.Test.YtimhmpdfioihlaaGreatDoorGPreV
import Derived.Test.YtimhmpdfioihlaaGreatDoorGCB
import Derived.Test.YtimhmpdfioihlaaGreatDoorGAMD
import Derived.Test.YtimhmpdfioihlaaGreatDoorGEN9v
set_option linter.unusedSimpArgs false
set_option linter.unusedVariables false
set_option maxHeartbeats 12800000
namespace Go.Proofs.YtimhmpdfioihlaaGreatDoor
set_option maxRecDepth 20000
open Go Go.Abs
end Go.Proofs.YtimhmpdfioihlaaGreatDoor
namespace Go.Proofs.YtimhmpdfioihlaaGreatDoor
set_option maxRecDepth 20000
open Go Go.Abs Nat
section
def hdB:List Int:=[0,97,115,109,1,0,0,0]
def ZHV (x:Res Mod)(v:V)(mm:List (Nat×List V)):Prop:=mm=[]/\match x with
 |.ok (m,_)=>v= .tup [.agg (Zb9 m),.int .i64 0]
 |.error (e,_)=>v= .tup [.agg ZqA,.int .i64 e]
def sD1 (b:List Int):St:={ n:=76,slots:=[(0,.view b.length 1 (Zi .u8 b)),(2,.ptr 2 0),(3,.ptr 3 0)],mem:=[(2,⟨false,ZqA⟩),(3,⟨false,[.int .i64 0]⟩)] }
def sD2 (b:List Int):St:={ n:=76,slots:=[(0,.view b.length 1 (Zi .u8 b)),(2,.ptr 2 0),(3,.ptr 3 0),(12,.bool false)],mem:=[(2,⟨false,ZqA⟩),(3,⟨false,[.int .i64 0]⟩)] }
def Th (pn:Nat->Option BI)(b:List Int)(p:Int)(i:Nat):St:={ n:=76,slots:=[(2,.ptr 2 0),(3,.ptr 3 0),(4,.ptr 19 0),(21,.ref 20 0 8 1),(22,.int .i64 8),(23,.int .i64 i)],mem:=[(2,⟨false,Zb9 ZnR⟩),(3,⟨false,[.int .i64 0]⟩),(19,⟨false,[.view b.length 1 (Zi .u8 b),.int .i64 p,.int .i64 b.length]⟩),(20,⟨true,Zi .u8 hdB⟩)],lent:=[(2,pn 2),(3,pn 3)] }
def Ts (pn:Nat->Option BI)(b:List Int)(p last:Int)(m:Mod):St:={ n:=76,slots:=[(2,.ptr 2 0),(3,.ptr 3 0),(4,.ptr 19 0),(7,.int .u8 last)],mem:=[(2,⟨false,Zb9 m⟩),(3,⟨false,[.int .i64 0]⟩),(19,⟨false,[.view b.length 1 (Zi .u8 b),.int .i64 p,.int .i64 b.length]⟩)],lent:=[(2,pn 2),(3,pn 3)] }
theorem wkZ:WkL ZqA (Zb9 ZnR):=
 .cons (Wk.nils 2) (.cons (Wk.nils 3) (.cons (Wk.nils 1) (.cons (Wk.nils 2) (.cons (Wk.nils 2) (.cons (Wk.nils 3) (.cons (Wk.nils 3) (.cons (Wk.refl _) (.cons (Wk.nils 2) (.cons (Wk.nils 2) (.cons (Wk.nils 2) .nil))))))))))
theorem ZwI {A C:Prop}{p t:Int}(h:A/\p<t/\C):A/\p<=t:=⟨h.1,Int.le_of_lt h.2.1⟩
theorem ZBW {b:List Int}{p:Int}{en:Nat}(h:okT b p en){id:Int}{m x:Mod}{t:Int}(he:Znj (b.take en) id m p= .ok (x,t)):okT b t en/\p<=t:=by
 have key: ∀{α:Type} (y:Res α) (f:α->Mod),(∀a t,y= .ok (a,t)->okT b t en/\p<=t)->bnd y (fun l t=> .ok (f l,t))= .ok (x,t)->okT b t en/\p<=t:=by
  intro α y f hy hb
  rcases y with⟨e,t0⟩|⟨a,t0⟩
  ·rw[Zn]at hb;cases hb
  ·rw[Zk]at hb;cases hb;exact hy _ _ rfl
 unfold Znj at he
 by_cases c1:id=1
 ·rw[if_pos c1]at he;exact key _ _ (fun a t hq=>ZwI (Zbj h (fun t a q ht hq=>ZvY ht hq) hq)) he
 rw[if_neg c1]at he
 by_cases c2:id=2
 ·rw[if_pos c2]at he;exact key _ _ (fun a t hq=>ZwI (Zbj h (fun t a q ht hq=>ZvZ ht hq) hq)) he
 rw[if_neg c2]at he
 by_cases c3:id=3
 ·rw[if_pos c3]at he;exact key _ _ (fun a t hq=>ZwI (Zbj h (fun t a q ht hq=>⟨(Zbo ht hq).1,Int.le_of_lt (Zbo ht hq).2.1⟩) hq)) he
 rw[if_neg c3]at he
 by_cases c4:id=4
 ·rw[if_pos c4]at he;exact key _ _ (fun a t hq=>ZwI (Zbj h (fun t a q ht hq=>ZvX ht hq) hq)) he
 rw[if_neg c4]at he
 by_cases c5:id=5
 ·rw[if_pos c5]at he;exact key _ _ (fun a t hq=>ZwI (Zbj h (fun t a q ht hq=>Zo1 ht hq) hq)) he
 rw[if_neg c5]at he
 by_cases c6:id=6
 ·rw[if_pos c6]at he;exact key _ _ (fun a t hq=>ZwI (Zbj h (fun t a q ht hq=>ZqS ht hq) hq)) he
 rw[if_neg c6]at he
 by_cases c7:id=7
 ·rw[if_pos c7]at he;exact key _ _ (fun a t hq=>ZwI (Zbj h (fun t a q ht hq=>Zv0 ht hq) hq)) he
 rw[if_neg c7]at he
 by_cases c8:id=8
 ·rw[if_pos c8]at he;exact key _ _ (fun a t hq=>⟨(Zbo h hq).1,Int.le_of_lt (Zbo h hq).2.1⟩) he
 rw[if_neg c8]at he
 by_cases c9:id=9
 ·rw[if_pos c9]at he;exact key _ _ (fun a t hq=>ZwI (Zbj h (fun t a q ht hq=>ZqT ht hq) hq)) he
 rw[if_neg c9]at he
 by_cases c10:id=10
 ·rw[if_pos c10]at he;exact key _ _ (fun a t hq=>ZwI (Zbj h (fun t a q ht hq=>ZqV ht hq) hq)) he
 rw[if_neg c10]at he
 by_cases c11:id=11
 ·rw[if_pos c11]at he;exact key _ _ (fun a t hq=>ZwI (Zbj h (fun t a q ht hq=>ZqU ht hq) hq)) he
 rw[if_neg c11]at he
 cases he;exact⟨h,Int.le_refl _⟩
theorem ZBX {xs:List Int}{α:Type}{a:α}{t:Int}:Zll xs a t=if t=xs.length then .ok (a,t)else .error (10,t):=rfl
theorem ZAq {α:Type}(xs:List Int)(f:List Int->Int->Res α)(s:Int)(en:Nat):inT xs f s (en:Int)=match f (xs.take en) s with|.ok (a,_)=> .ok (a,(en:Int))|.error (e,_)=> .error (e,(en:Int)):=by
 unfold inT;rw[Yap]
 rcases f (xs.take en) s with⟨e,q⟩|⟨a,q⟩<;>rfl
theorem AW.cutN {P:Program}{c:Code}{Q:Exit->St->Prop}{st:St}(is ks:List Nat)(T:St)(h1:AW P c (fun e s=>e= .normal/\s.keep is ks=T) st)(h2:Q .normal T):AW P c Q st:=
 AW.keepPost is ks (AW.mono h1 fun e s h=>by obtain⟨rfl,hs⟩:=h;rw[hs];exact h2)
def Tsb (pn:Nat->Option BI)(b:List Int)(p last:Int)(m:Mod)(B:Bool):St:={ n:=76,slots:=[(2,.ptr 2 0),(3,.ptr 3 0),(4,.ptr 19 0),(7,.int .u8 last),(42,.bool B)],mem:=[(2,⟨false,Zb9 m⟩),(3,⟨false,[.int .i64 0]⟩),(19,⟨false,[.view b.length 1 (Zi .u8 b),.int .i64 p,.int .i64 b.length]⟩)],lent:=[(2,pn 2),(3,pn 3)] }
theorem Zij {pn:Nat->Option BI}: ∀p∈[(0,2),(1,3)],lk [(2,pn 2),(3,pn 3)] p.2=some (pn p.2):=by
 intro p hp
 rcases Yav.1 hp with rfl|hp
 ·rfl
 rcases Yav.1 hp with rfl|hp
 ·rfl
 cases hp
def Zzh (x:Res Mod):Res Mod:=bnd x fun m t=>ZaT (m.codes.length=m.funcs.length) (fun t=> .ok (m,t)) t
def ZGg (xs:List Int)(x:Res Unit):Res Mod:=bnd x fun _ t=>Zzh (Zf0 xs xs.length 0 { ZnR with start:= -1 } t)
theorem ZBY {P:Program}{f g:FuncId}{fn:Func}{A D F:Code}{id:Nat}{mk df:Oper}{x1 x2:Operand}{k1 k2 dm d:Nat}{args:List V}{R:V->List (Nat×List V)->Prop}{s1 s3:St}{o1 o2:ZaK}
 (hf:P.funcs[f]? = some fn) (hb:fn.body=some (.seq A (.seq D (.seq (.region id #[mk,df] false) F)))) (hn:args.length<=fn.ntmps) (hcg:Za P g=true)
 (hA:AW P A (fun e s=>e= .normal/\s=s1) (st0 fn.ntmps args)) (hD:AW P D (fun e s=>(e= .ret/\Zf4 P fn.results.toList R .ret s)\/(e= .normal/\s=s3)) s1)
 (hm:mk.op= .makeFunc (.func g) #[] #[x1,x2]/\mk.dst=some dm/\mk.guard=none) (hd:df.op= .defer { callee:= .value (.tmp dm),args:= #[],argTypes:= #[] }/\df.dst=none/\df.guard=none) (hdm:dm<s3.n)
 (hx1:s3.ev x1= .ptr k1 0) (hx2:s3.ev x2= .ptr k2 0) (hk:(k1==k2)=false) (ho1:s3.obj k1=some o1) (ho2:s3.obj k2=some o2) (hl:s3.lent=[])
 (hF: ∀pn:Nat->Option BI,AW P F (ZnQ P fn g [(0,k1),(1,k2)] [0,1] d R pn) { s3.put dm .any with lent:=[(k1,pn k1),(k2,pn k2)] }):AC P f args R:=by
 intro S w us hS hlen hargs
 refine calls_of_wp_defers hf hb ?_
 have sep: ∀b,S b-> ¬False:=fun _ _ h=>h
 let C:Ctx:=⟨S,w,fun _=>False,hS,sep,[]⟩
 have hinit:SR C S (fun _=>none) (st0 fn.ntmps args) { tmps:=us.toArray++Array.replicate (fn.ntmps-us.toArray.size) undef,defers:=[] } w:={
  tsize:=by simp[st0];omega
  slots:=fun i=>by
   simp only[St.get,st0,Zb4,Nat.zero_le,if_true,Nat.sub_zero]
   cases hi:args[i]? with
   |none=>exact .any _
   |some v=>
    have hlt:i<us.length:=by rw[<- hlen];exact(Yak.1 hi).1
    have hu:us[i]? = some us[i]:=Yab hlt
    have:(us.toArray++Array.replicate (fn.ntmps-us.toArray.size) undef).getD i undef=us[i]:=by
      rw[Yan,Array.getElem?_append_left (by simpa using hlt)]
      simp[hlt]
    rw[this]
    exact hargs i v _ hi hu
  defers:=rfl
  objs:=fun k o ho=>by simp[St.obj,st0,lk]at ho
  inj:=fun k k' bi bi' hk=>by simp[St.obj,st0,lk]at hk
  own:=fun k bi hk=>by simp[St.obj,st0,lk]at hk
  pins:=fun k bi hk=>by simp[st0]at hk
  sub:=fun b hb=>hb
  snew:=fun b hb=> .inl hb
  slt:=hS.1
  frame:=⟨rfl,rfl,rfl,Nat.le_refl _,fun _ _ _=>rfl⟩ }
 refine wp_seq (wp_mono (hA C _ w ⟨S,_,hinit⟩) fun e a w1 ⟨s,⟨he,hs⟩,hr⟩=> ?_)
 subst he hs
 refine wp_seq (wp_mono (hD C a w1 hr) fun e a w3 ⟨s,hc,hr⟩=> ?_)
 rcases hc with⟨he,hq⟩|⟨he,hs⟩
 ·subst he
  obtain⟨S',β',hs⟩:=hr
  obtain⟨u,hrun,r,m,hR,hO⟩:=Zp7 hs hq
  show Leaves P fn a.tmps _ a.defers .returning w3
  rw[hs.defers]
  exact⟨u,hrun,r,m,u,hR,rfl,hO⟩
 ·subst he hs
  obtain⟨S',β',hs⟩:=hr
  refine wp_seq (ZjY hm hd (by rw[hs.tsize];exact hdm) ?_)
  obtain⟨b1,hb1,hp1⟩:=VR.ptr_inv (hx1▸Zag hs x1)
  obtain⟨b2,hb2,hp2⟩:=VR.ptr_inv (hx2▸Zag hs x2)
  have hkn:k1≠k2:=by simpa using hk
  have hus:((#[x1,x2]:Array Operand).map a.eval)= #[.pointer (some ⟨b1.blk,b1.off,none⟩),.pointer (some ⟨b2.blk,b2.off,none⟩)]:=by
   simp[hp1,hp2]
  have h1:=hs.put (d:=dm) (v:= .any) (u:= .func (.func g) #[] ((#[x1,x2]:Array Operand).map a.eval)) hdm (.any _)
  let pn:Nat->Option BI:=fun k=>if k=k1 then some b1 else some b2
  have e1:pn k1=some b1:=if_pos rfl
  have e2:pn k2=some b2:=if_neg fun h=>hkn h.symm
  have h2:SR ⟨S,w,fun _=>False,hS,sep,[{ target:= .fn (.func g) ((#[x1,x2]:Array Operand).map a.eval),args:= #[] }]⟩ S' β' { s.put dm .any with lent:=[(k1,pn k1),(k2,pn k2)] }
   { a.put (some dm) (.func (.func g) #[] ((#[x1,x2]:Array Operand).map a.eval))with defers:={ target:= .fn (.func g) ((#[x1,x2]:Array Operand).map a.eval),args:= #[] }::a.defers } w3:={
   tsize:=h1.tsize,slots:=h1.slots
   defers:=by show _::a.defers=[_];rw[hs.defers]
   objs:=h1.objs,inj:=h1.inj
   own:=fun k bi hk hbi=>⟨(h1.own k bi hk hbi).1,.inl ((h1.own k bi hk hbi).2.resolve_right fun h=>h.1)⟩
   pins:=fun k bi hk=>by
    simp only[Yav,Yai,List.not_mem_nil,or_false]at hk
    rcases hk with⟨rfl,h⟩|⟨rfl,h⟩
    ·rw[e1]at h;cases h;exact hb1
    ·rw[e2]at h;cases h;exact hb2
   sub:=h1.sub,snew:=h1.snew,slt:=h1.slt,frame:=h1.frame }
  refine wp_mono (hF pn _ _ _ ⟨S',β',h2⟩) fun e a w4 ⟨s4,he,S4,β4,h4⟩=> ?_
  refine Zod hcg ⟨by simp,fun j p u hp hu=> ?_⟩ h4 he
  rw[hus]at hu
  match j with
  |0=>simp at hp hu;subst hp hu;exact⟨b1,e1,rfl⟩
  |1=>simp at hp hu;subst hp hu;exact⟨b2,e2,rfl⟩
  |j+2=>simp at hp
attribute [local irreducible] AW AWL AC FW CW CWr IntKind.wrap
theorem ZGh.NM:type_of% @MB.NM/\type_of% @Zb9.eq_1/\type_of% @ZqA.eq_1/\type_of% @ZnR.eq_1/\type_of% @hdB.eq_1/\type_of% @sD1.eq_1/\type_of% @sD2.eq_1/\type_of% @Th.eq_1/\type_of% @Ts.eq_1/\type_of% @Tsb.eq_1:=
 ⟨MB.NM,@Zb9.eq_1,@ZqA.eq_1,@ZnR.eq_1,@hdB.eq_1,@sD1.eq_1,@sD2.eq_1,@Th.eq_1,@Ts.eq_1,@Tsb.eq_1⟩
open ZGh
theorem ZD3.cl {p:Prop}(h:p:=by
 first
  |refine AWL.cMP (f:=48) [(0,19)] ZzT rfl rfl rfl rfl rfl rfl rfl (q0) ?_ ?_
  |refine AWL.cMP (f:=47) [] ZzS rfl rfl rfl rfl rfl rfl rfl (q1) ?_ ?_
  |refine AWL.cMP (f:=50) [(0,19)] Zrw rfl rfl rfl rfl rfl rfl rfl (q2) ?_ ?_
  |refine AWL.cMP (f:=49) [(0,19)] ZEI rfl rfl rfl rfl rfl rfl rfl (q3) ?_ ?_
  |refine AWL.cMP (f:=51) [(0,34048)] ZEj rfl rfl rfl rfl rfl rfl rfl (q4) ?_ ?_
  |refine AWL.cMP (f:=52) [(0,34048),(1,2)] ZG9 rfl rfl rfl rfl rfl rfl rfl (q5) ?_ ?_
  |refine AWL.cMP (f:=53) [(0,34048)] ZGp rfl rfl rfl rfl rfl rfl rfl (q6) ?_ ?_
 all_goals(apply_rules (newGoals:= .nonDependentOnly) only[dep];exact())):p:=h
open ZD3 ZuH Zm in
theorem ZBZ (b:List Int)(hb:bytes b)(hl:b.length<=16384):AC Tryz.prog 13 [.view b.length 1 (Zi .u8 b)] (ZHV (Zu9 b)):=by
 obtain⟨X,hX⟩: ∃X,Zu9 b=X:=⟨_,rfl⟩
 rw[hX]
 have hX:ZGg b (Zih b hdB 0)=X:=hX
 have q0:True:=trivial
 have q1:True:=trivial
 have q2:True:=trivial
 have q3:True:=trivial
 have q4:True:=trivial
 have q5:True:=trivial
 have q6:True:=trivial
 have d12:decide ((b.length:Int)>16384)=false:=Yaf (by omega)
 refine ZBY (s1:=sD1 b) (s3:=sD2 b) (d:=75) (x1:= .tmp 2) (x2:= .tmp 3) (k1:=2) (k2:=3) (o1:=⟨false,ZqA⟩) (o2:=⟨false,[.int .i64 0]⟩) Tryz.func13 rfl (Yaa rfl) ZG8 ?hA ?hD (by exact⟨rfl,rfl,rfl⟩) (by exact⟨rfl,rfl,rfl⟩) (by exact Yaa rfl) rfl rfl rfl rfl rfl rfl (fun pn=> ?hF)
 case hA=>
  refine AW.keepPost [0,2,3] [2,3] ?_
  have nx:=trivial
  refine' ZaH
  all_goals first
   |exact⟨rfl,rfl⟩
 case hD=>
  refine AW.keepPost [0,2,3,12] [2,3] ?_
  have nx:=aI @d12 trivial
  refine' ZaH
  all_goals first
   |exact .inr ⟨trivial,rfl⟩
   |exact .inr ⟨rfl,rfl⟩
 clear d12
 refine AW.keep [0,2,3] [2,3] ?_
 try simp(disch:=omega) only[NM,Nat.reduceBEq,reduceAdd,reduceMul,Int.reduceToNat,reduceSub,List.set_cons_zero,List.set_cons_succ]
 refine AW.wkO 2 rfl wkZ ?_
 try simp(disch:=omega) only[NM,Nat.reduceBEq,reduceAdd,reduceMul,Int.reduceToNat,reduceSub,List.set_cons_zero,List.set_cons_succ]
 have o0:okT b 0 b.length:=⟨hb,by omega,Nat.le_refl _,Int.le_refl _,by omega⟩
 have hxb:b.take b.length=b:=Yau
 have nx:=trivial
 refine' ZaH
 refine AW.loop [2,3,4,21,22,23] [2,3,19,20] (fun m st=> ∃(i:Nat) (p:Int),st=Th pn b p i/\i<=8/\okT b p b.length/\ZGg b (Zih b (hdB.drop i) p)=X/\m=8-i) ?_ ?_
 ·exact⟨_,0,0,rfl,Nat.zero_le _,o0,hX,rfl⟩
 clear hX
 rintro m st ⟨i,p,rfl,hi,hp,hX,rfl⟩
 rcases Nat.lt_or_ge i 8 with hi8|hi8
 ·obtain⟨c,hc⟩: ∃c,hdB.getD i 0=c:=⟨_,rfl⟩
  have hdr:hdB.drop i=c::hdB.drop (i+1):=by
   rw[List.drop_eq_getElem_cons (show i<hdB.length from hi8),<- hc,Yah,Yab (show i<hdB.length from hi8)];rfl
  have hc2:([0,97,115,109,1,0,0,0]:List Int).getD i 0=c:=hc
  have e1:decide ((i:Int)<8)=true:=Yae (by omega)
  have ew:IntKind.i64.wrap ((i:Int)+1)=((i+1:Nat):Int):=Zc _ (by omega) (by omega)
  rw[hdr]at hX
  unfold Zih at hX
  have q0:=Zdb hp
  have q0m:=fun n t=>Za2 hp (n:=n) (t:=t)
  unfold TF OKR ERR tpM at q0
  rw[hxb]at q0 q0m
  rcases hy:Zcj b p with⟨e,t⟩|⟨x,t⟩
  all_goals
   rw[hy]at hX q0 q0m
   simp only[Zk,Zn]at hX q0
  ·subst hX
   clear q0m
   have nx:=aI @e1 (aI @hc2 trivial)
   refine' ZaH
   refine ZnQ.mk (.inr ⟨_,rfl,rfl⟩) rfl rfl rfl (Yaa rfl) Zij (Zds _ _ _ _ _ _ _ _ _ _ _ _ _ _ _ _ _ _ _ _ _ _ _ _ _ _ _ _ _ _ _ _ _) rfl ?_
   refine Zf4.mk rfl rfl rfl (.inl rfl) ?_ ?_
   all_goals first
    |exact⟨Yaa rfl,Yaa rfl,trivial⟩
    |exact⟨rfl,rfl⟩
  ·obtain⟨hp2, -,hx⟩:=q0m _ _ rfl
   clear q0m
   by_cases hxc:x=c
   ·have q1:=Zf7
    have f1:(x==c)=true:=beq_iff_eq.2 hxc
    rw[ZaT,if_pos hxc]at hX
    have nx:=aI @e1 (aI @hc2 (aI @f1 (aI @ew trivial)))
    refine' ZaH
    all_goals first
     |exact⟨8-(i+1),by omega,i+1,t,rfl,by omega,hp2,hX,rfl⟩
   ·have q1:=Zfs
    have f1:(x==c)=false:=Yam.2 hxc
    rw[ZaT,if_neg hxc]at hX
    subst hX
    have nx:=aI @e1 (aI @hc2 (aI @f1 trivial))
    refine' ZaH
    refine ZnQ.mk (.inr ⟨_,rfl,rfl⟩) rfl rfl rfl (Yaa rfl) Zij (Zds _ _ _ _ _ _ _ _ _ _ _ _ _ _ _ _ _ _ _ _ _ _ _ _ _ _ _ _ _ _ _ _ _) rfl ?_
    refine Zf4.mk rfl rfl rfl (.inl rfl) ?_ ?_
    all_goals first
     |exact⟨Yaa rfl,Yaa rfl,trivial⟩
     |exact⟨rfl,rfl⟩
 ·obtain rfl:i=8:=by omega
  have hX:ZGg b (.ok ((),p))=X:=hX
  have hX:Zzh (Zf0 b b.length 0 { ZnR with start:= -1 } p)=X:=hX
  have e1:decide (((8:Nat):Int)<8)=false:=by decide
  have nx:=aI @e1 trivial
  refine' ZaH
  refine AW.loop [2,3,4,7] [2,3,19] (fun m st=> ∃(n:Nat) (last:Int) (md:Mod) (p:Int),st=Ts pn b p last md/\okT b p b.length/\byte last/\Zzh (Zf0 b n last md p)=X/\b.length-p<=n/\n=m) ?_ ?_
  ·exact⟨_,b.length,0,{ ZnR with start:= -1 },p,rfl,hp,⟨by decide,by decide⟩,hX,by have:=hp.p0;omega,rfl⟩
  clear hX hp
  rintro m st ⟨n,last,md,p,rfl,hp,hla,hX,hn,rfl⟩
  obtain⟨B,hB⟩: ∃B,decide (p<(b.length:Int))=B:=⟨_,rfl⟩
  have nx:=trivial
  refine' Zx0
  refine AW.cutN [2,3,4,7,42] [2,3,19] (Tsb pn b p last md B) ?_ ?_
  ·have nx:=aI @hB trivial
   refine' ZxA
   all_goals first
    |exact⟨rfl,rfl⟩
    |exact⟨trivial,rfl⟩
  by_cases hpe:p<b.length
  ·have d0:decide (p<(b.length:Int))=true:=Yae hpe
   rw[d0]at hB
   subst hB
   rcases n with _|n
   ·omega
   rw[Zf0,if_pos hpe]at hX
   unfold Zz6 at hX
   have q0:=Zdb hp
   have q0m:=fun n t=>Za2 hp (n:=n) (t:=t)
   unfold TF OKR ERR tpM at q0
   rw[hxb]at q0 q0m
   rcases hy:Zcj b p with⟨e,t⟩|⟨id,t⟩
   all_goals
    rw[hy]at hX q0 q0m
    simp only[Zk,Zn]at hX q0
   ·subst hX
    clear q0m
    have nx:=aI @d0 trivial
    refine' ZaH
    refine ZnQ.mk (.inr ⟨_,rfl,rfl⟩) rfl rfl rfl (Yaa rfl) Zij (Zds _ _ _ _ _ _ _ _ _ _ _ _ _ _ _ _ _ _ _ _ _ _ _ _ _ _ _ _ _ _ _ _ _) rfl ?_
    refine Zf4.mk rfl rfl rfl (.inl rfl) ?_ ?_
    all_goals first
     |exact⟨Yaa rfl,Yaa rfl,trivial⟩
     |exact⟨rfl,rfl⟩
   obtain⟨hp2,ht1,hid⟩:=q0m _ _ rfl
   clear q0m hp
   unfold Zg0 at hX
   have q2:=ZcC hp2
   have q2m:=fun n t=>Zbo hp2 (n:=n) (t:=t)
   unfold TF OKR ERR tpM at q2
   rw[hxb]at q2 q2m
   rcases hy2:nmT b t with⟨e,t2⟩|⟨n1,t2⟩
   all_goals
    rw[hy2]at hX q2 q2m
    simp only[Zk,Zn]at hX q2
   ·subst hX
    clear q2m
    have nx:=aI @d0 trivial
    refine' ZaH
    refine ZnQ.mk (.inr ⟨_,rfl,rfl⟩) rfl rfl rfl (Yaa rfl) Zij (Zds _ _ _ _ _ _ _ _ _ _ _ _ _ _ _ _ _ _ _ _ _ _ _ _ _ _ _ _ _ _ _ _ _) rfl ?_
    refine Zf4.mk rfl rfl rfl (.inl rfl) ?_ ?_
    all_goals first
     |exact⟨Yaa rfl,Yaa rfl,trivial⟩
     |exact⟨rfl,rfl⟩
   obtain⟨hp3,ht2,hn1⟩:=q2m _ _ rfl
   clear q2m hp2
   have q3:=Zln hp3 n1 hn1
   unfold tpM at q3
   unfold ZoN at hX
   by_cases c:n1<=b.length-t2
   case neg=>
    rw[if_pos (by omega)]at hX
    simp only[c,not_false_eq_true,true_and,false_and]at q3
    simp only[Zn]at hX
    subst hX
    have nx:=aI @d0 trivial
    refine' ZaH
    refine ZnQ.mk (.inr ⟨_,rfl,rfl⟩) rfl rfl rfl (Yaa rfl) Zij (Zds _ _ _ _ _ _ _ _ _ _ _ _ _ _ _ _ _ _ _ _ _ _ _ _ _ _ _ _ _ _ _ _ _) rfl ?_
    refine Zf4.mk rfl rfl rfl (.inl rfl) ?_ ?_
    all_goals first
     |exact⟨Yaa rfl,Yaa rfl,trivial⟩
     |exact⟨rfl,rfl⟩
   rw[if_neg (by omega)]at hX
   simp only[c,true_and,not_true_eq_false,false_and]at q3
   have h20:=hp3.p0
   obtain⟨en,hen⟩: ∃k:Nat,t2+n1=k:=⟨(t2+n1).toNat,by omega⟩
   have hp4:okT b t2 en:=⟨hp3.hb,hp3.hl,by omega,h20,by omega⟩
   have hp5:okT b en b.length:=⟨hp3.hb,hp3.hl,Nat.le_refl _,by omega,by omega⟩
   have hle:p<(en:Int):=by omega
   rw[hen]at q3 hX
   simp only[Zk]at hX
   by_cases c0:id=0
   ·subst c0
    rw[if_pos rfl,ZAq]at hX
    have q4:=ZiB hp4
    unfold TF OKR ERR tpM at q4
    rcases hy4:Ze3 (b.take en) t2 with⟨e,t4⟩|⟨nm,t4⟩
    all_goals
     rw[hy4]at hX q4
     simp only[Zk,Zn]at hX q4
    ·subst hX
     have nx:=aI @d0 trivial
     refine' ZaH
     refine ZnQ.mk (.inr ⟨_,rfl,rfl⟩) rfl rfl rfl (Yaa rfl) Zij (Zds _ _ _ _ _ _ _ _ _ _ _ _ _ _ _ _ _ _ _ _ _ _ _ _ _ _ _ _ _ _ _ _ _) rfl ?_
     refine Zf4.mk rfl rfl rfl (.inl rfl) ?_ ?_
     all_goals first
      |exact⟨Yaa rfl,Yaa rfl,trivial⟩
      |exact⟨rfl,rfl⟩
    ·have nx:=aI @d0 trivial
     refine' ZaH
     all_goals first
      |exact⟨n,by omega,n,last,md,en,rfl,hp5,hla,hX,by omega,rfl⟩
   have f0:(id==0)=false:=Yam.2 c0
   rw[if_neg c0,ZAq]at hX
   by_cases c1:id>last
   case neg=>
    have f1:decide (last<id)=false:=Yaf c1
    have f2:decide (id>last)=false:=Yaf c1
    rw[ZaT,if_neg (fun h=>c1 h.1)]at hX
    simp only[Zn]at hX
    have q1:=Zfs
    subst hX
    have nx:=aI @d0 (aI @f0 (aI @f1 (aI @f2 trivial)))
    refine' ZaH
    refine ZnQ.mk (.inr ⟨_,rfl,rfl⟩) rfl rfl rfl (Yaa rfl) Zij (Zds _ _ _ _ _ _ _ _ _ _ _ _ _ _ _ _ _ _ _ _ _ _ _ _ _ _ _ _ _ _ _ _ _) rfl ?_
    refine Zf4.mk rfl rfl rfl (.inl rfl) ?_ ?_
    all_goals first
     |exact⟨Yaa rfl,Yaa rfl,trivial⟩
     |exact⟨rfl,rfl⟩
   have f1:decide (last<id)=true:=Yae c1
   have f2:decide (id>last)=true:=Yae c1
   by_cases c2:id<=11
   case neg=>
    have f3:decide (id<=11)=false:=Yaf c2
    rw[ZaT,if_neg (fun h=>c2 h.2)]at hX
    simp only[Zn]at hX
    have q1:=Zfs
    subst hX
    have nx:=aI @d0 (aI @f0 (aI @f1 (aI @f2 (aI @f3 trivial))))
    refine' ZaH
    refine ZnQ.mk (.inr ⟨_,rfl,rfl⟩) rfl rfl rfl (Yaa rfl) Zij (Zds _ _ _ _ _ _ _ _ _ _ _ _ _ _ _ _ _ _ _ _ _ _ _ _ _ _ _ _ _ _ _ _ _) rfl ?_
    refine Zf4.mk rfl rfl rfl (.inl rfl) ?_ ?_
    all_goals first
     |exact⟨Yaa rfl,Yaa rfl,trivial⟩
     |exact⟨rfl,rfl⟩
   have f3:decide (id<=11)=true:=Yae c2
   rw[ZaT,if_pos ⟨c1,c2⟩]at hX
   have q1:=Zf7
   have hid1:1<=id/\id<=11:=⟨by have:=hid.1;omega,c2⟩
   have q5:=ZBE hp4 id hid1 md
   have q5m:=fun x t=>ZBW hp4 (id:=id) (m:=md) (x:=x) (t:=t)
   unfold OKS ERS tpM at q5
   rcases hy5:Znj (b.take en) id md t2 with⟨e,t5⟩|⟨md2,t5⟩
   all_goals
    rw[hy5]at hX q5 q5m
    simp only[Zk,Zn]at hX q5
   ·subst hX
    clear q5m
    have nx:=aI @d0 (aI @f0 (aI @f1 (aI @f2 (aI @f3 trivial))))
    refine' ZaH
    refine ZnQ.mk (.inr ⟨_,rfl,rfl⟩) rfl rfl rfl (Yaa rfl) Zij (Zds _ _ _ _ _ _ _ _ _ _ _ _ _ _ _ _ _ _ _ _ _ _ _ _ _ _ _ _ _ _ _ _ _) rfl ?_
    refine Zf4.mk rfl rfl rfl (.inl rfl) ?_ ?_
    all_goals first
     |exact⟨Yaa rfl,Yaa rfl,trivial⟩
     |exact⟨rfl,rfl⟩
   obtain⟨hp6,h26⟩:=q5m _ _ rfl
   clear q5m
   have q6:=ZqB hp6
   have hlen4:=hp4.len
   unfold TF OKR ERR tpM at q6
   rw[ZBX,hlen4]at hX q6
   by_cases c5:t5=en
   ·rw[if_pos c5]at hX q6
    simp only[Zk]at hX q6
    have nx:=aI @d0 (aI @f0 (aI @f1 (aI @f2 (aI @f3 trivial))))
    refine' ZaH
    all_goals first
     |exact⟨n,by omega,n,id,md2,en,rfl,hp5,hid,hX,by omega,rfl⟩
   ·rw[if_neg c5]at hX q6
    simp only[Zn]at hX q6
    subst hX
    have nx:=aI @d0 (aI @f0 (aI @f1 (aI @f2 (aI @f3 trivial))))
    refine' ZaH
    refine ZnQ.mk (.inr ⟨_,rfl,rfl⟩) rfl rfl rfl (Yaa rfl) Zij (Zds _ _ _ _ _ _ _ _ _ _ _ _ _ _ _ _ _ _ _ _ _ _ _ _ _ _ _ _ _ _ _ _ _) rfl ?_
    refine Zf4.mk rfl rfl rfl (.inl rfl) ?_ ?_
    all_goals first
     |exact⟨Yaa rfl,Yaa rfl,trivial⟩
     |exact⟨rfl,rfl⟩
  ·have d0:decide (p<(b.length:Int))=false:=Yaf hpe
   rw[d0]at hB
   subst hB
   have hX:Zzh (.ok (md,p))=X:=by
    rw[<- hX]
    cases n with
    |zero=>rfl
    |succ n=>rw[Zf0,if_neg hpe]
   have hX:ZaT (md.codes.length=md.funcs.length) (fun t=> .ok (md,t)) p=X:=hX
   by_cases cc:md.codes.length=md.funcs.length
   ·have q1:=Zf7
    have f1:((md.codes.length:Int)==(md.funcs.length:Int))=true:=beq_iff_eq.2 (by omega)
    rw[ZaT,if_pos cc]at hX
    subst hX
    have nx:=aI @d0 (aI @f1 trivial)
    refine' ZaH
    refine ZnQ.mk (.inl ⟨rfl,rfl⟩) rfl rfl rfl (Yaa rfl) Zij (ZA1 _ _ _ _ _ _ _ _ _ _ _ _ _ _ _ _ _ _ _ _ _ _ _ _ _ _ _ _ _ _ _ _) rfl ?_
    refine Zf4.mk rfl rfl rfl (.inl rfl) ?_ ?_
    all_goals first
     |exact⟨Yaa rfl,Yaa rfl,trivial⟩
     |exact⟨rfl,rfl⟩
   ·have q1:=Zfs
    have f1:((md.codes.length:Int)==(md.funcs.length:Int))=false:=Yam.2 (by omega)
    rw[ZaT,if_neg cc]at hX
    subst hX
    have nx:=aI @d0 (aI @f1 trivial)
    refine' ZaH
    refine ZnQ.mk (.inr ⟨_,rfl,rfl⟩) rfl rfl rfl (Yaa rfl) Zij (Zds _ _ _ _ _ _ _ _ _ _ _ _ _ _ _ _ _ _ _ _ _ _ _ _ _ _ _ _ _ _ _ _ _) rfl ?_
    refine Zf4.mk rfl rfl rfl (.inl rfl) ?_ ?_
    all_goals first
     |exact⟨Yaa rfl,Yaa rfl,trivial⟩
     |exact⟨rfl,rfl⟩
end
end Go.Proofs.YtimhmpdfioihlaaGreatDoor
namespace Go.Proofs.YtimhmpdfioihlaaGreatDoor
set_option maxRecDepth 20000
open Go Go.Abs Nat
attribute [local irreducible] AW AWL AC FW CW CWr IntKind.wrap
open MB
open ZuH Zm in
theorem Zzi (b:List Int)(hl: ¬b.length<=16384):AC Tryz.prog 13 [.view b.length 1 (Zi .u8 b)] (fun v m=>m=[]/\v= .tup [.agg ZqA,.int .i64 4]):=by
 have d12:decide ((b.length:Int)>16384)=true:=Yae (by omega)
 refine AC.enter Tryz.func13 rfl (Yaa rfl) ?_
 simp only[Tryz.f13]
 have nx:=aI @d12 trivial
 refine' ZxT
 all_goals first
  |exact⟨trivial,rfl⟩
  |exact⟨rfl,rfl⟩
theorem ZnM (b:List Int)(hb:bytes b):AC Tryz.prog 13 [.view b.length 1 (Zi .u8 b)] (fun v m=>v= .tup [.agg (Zb9 (Zkx b).1),.int .i64 (Zkx b).2]/\m=[]):=by
 by_cases hl:b.length<=16384
 ·refine(ZBZ b hb hl).out fun v mm h=> ?_
  obtain⟨rfl,h⟩:=h
  rw[show Zkx b=match Zu9 b with
   |.ok (m,_)=>(m,0)
   |.error (e,_)=>(ZnR,e)from if_neg (by omega)]
  rcases hx:Zu9 b with⟨e,t⟩|⟨m,t⟩
  all_goals rw[hx]at h
  ·have h:v= .tup [.agg ZqA,.int .i64 e]:=h
   subst h
   exact⟨_,_,⟨rfl,rfl⟩,fun S w w' u ho=>ho.wk (Wk.tup (.cons (Wk.agg wkZ) (WkL.refl _)))⟩
  ·have h:v= .tup [.agg (Zb9 m),.int .i64 0]:=h
   subst h
   exact⟨_,_,⟨rfl,rfl⟩,fun _ _ _ _ ho=>ho⟩
 ·refine(Zzi b hl).out fun v mm h=> ?_
  obtain⟨rfl,rfl⟩:=h
  rw[show Zkx b=(ZnR,4)from if_pos (by omega)]
  exact⟨_,_,⟨rfl,rfl⟩,fun S w w' u ho=>ho.wk (Wk.tup (.cons (Wk.agg wkZ) (WkL.refl _)))⟩
end Go.Proofs.YtimhmpdfioihlaaGreatDoor
