/- A library of mine, for walks over abstract states: part 3. It imports the kit alone. -/
import Derived.Test.YtimhmpdfioihlaaGreatDoorV2
import Derived.Orders
set_option linter.unusedSimpArgs false
set_option linter.unusedVariables false
namespace Go.Abs
open Go Go.RowKit
def Zi (k:IntKind)(xs:List Int):List V:=xs.map (V.int k)
theorem Zb (k:IntKind)(xs:List Int):(Zi k xs).length=xs.length:=by simp[Zi]
theorem ZiT (k:IntKind)(xs ys:List Int):Zi k xs++Zi k ys=Zi k (xs++ys):=by simp[Zi]
theorem ZCp (k:IntKind)(xs:List Int)(n:Nat):vi (((Zi k xs).drop n).getD 0 .any)=xs.getD n 0:=by
 simp only[Zi,Yah,Ya2,Yas,Nat.add_zero]
 cases xs[n]? <;> rfl
theorem ZCq (k:IntKind)(xs:List Int)(n:Nat):vi ((Zi k xs).getD n .any)=xs.getD n 0:=by
 simp only[Zi,Yah,Yas]
 cases xs[n]? <;> rfl
theorem ZaY {P:Program}{t:TypeId}{k:IntKind}(hk:ZhW P t=some k)(xs:List Int)(n:Nat)(h:n<xs.length):0<((Zi k xs).drop n).length/\(Zac P t (((Zi k xs).drop n).getD 0 .any)).1:=by
 refine⟨by simp[Zi];omega,?_⟩
 unfold Zac
 rw[hk]
 refine⟨xs.getD n 0,?_⟩
 simp[Zi,Yah,Ya2,h]
theorem Zbe {P:Program}{t:TypeId}{k:IntKind}(hk:ZhW P t=some k)(xs:List Int)(n:Nat)(h:n<xs.length):n<(Zi k xs).length/\(Zac P t ((Zi k xs).getD n .any)).1:=by
 refine⟨by simp[Zi];omega,?_⟩
 unfold Zac
 rw[hk]
 refine⟨xs.getD n 0,?_⟩
 simp[Zi,Yah,h]
theorem Zc (x:Int)(h1: -9223372036854775808<=x)(h2:x<=9223372036854775807):IntKind.i64.wrap x=x:=by rw[IntKind.wrap_i64];omega
end Go.Abs
namespace Go.Abs
open Go Go.RowKit
theorem Zpj (j d:Nat)(k:IntKind)(x:Int):V.wipe j (d+1) (.int k x)= .int k x:=rfl
theorem Zmg (j d:Nat)(b:Bool):V.wipe j (d+1) (.bool b)= .bool b:=rfl
theorem Zpk (j d:Nat)(s:List UInt8):V.wipe j (d+1) (.str s)= .str s:=rfl
theorem Zpl (j d:Nat)(v:Value):V.wipe j (d+1) (.con v)= .con v:=rfl
theorem Zmh (j d:Nat)  : V.wipe j (d+1) (.nils)= .nils:=rfl
theorem Zmi (j d:Nat)(n s:Nat)(cs:List V):V.wipe j (d+1) (.view n s cs)= .view n s cs:=rfl
theorem Zmj (j d:Nat)(cs:List V):V.wipe j (d+1) (.vptr cs)= .vptr cs:=rfl
theorem Zmk (j d:Nat)(cs:List V):V.wipe j (d+1) (.fagg cs)= .fagg cs:=rfl
theorem Zpm (j d:Nat)(g:FuncId)(cs:List V):V.wipe j (d+1) (.clo g cs)= .clo g cs:=rfl
theorem Zpn (j d:Nat)  : V.wipe j (d+1) (.any)= .any:=rfl
theorem ZgI (j d:Nat)(k o n s:Nat):V.wipe j (d+1) (.ref k o n s)=bif k==j then .any else .ref k o n s:=rfl
theorem ZgJ (j d:Nat)(k o:Nat):V.wipe j (d+1) (.ptr k o)=bif k==j then .any else .ptr k o:=rfl
theorem Zeo (j d:Nat)(cs:List V):V.wipe j (d+1) (.agg cs)= .agg (cs.map (V.wipe j d)):=rfl
theorem Zep (j d:Nat)(cs:List V):V.wipe j (d+1) (.tup cs)= .tup (cs.map (V.wipe j d)):=rfl
theorem Zgi (j d:Nat)(g:FuncId)(cs:List V):V.wipe j (d+1) (.fn g cs)= .fn g (cs.map (V.wipe j d)):=rfl
theorem ZsI (j j2 d:Nat)(k:IntKind)(x:Int):V.ren j j2 (d+1) (.int k x)= .int k x:=rfl
theorem Zpo (j j2 d:Nat)(b:Bool):V.ren j j2 (d+1) (.bool b)= .bool b:=rfl
theorem ZsJ (j j2 d:Nat)(s:List UInt8):V.ren j j2 (d+1) (.str s)= .str s:=rfl
theorem ZsK (j j2 d:Nat)(v:Value):V.ren j j2 (d+1) (.con v)= .con v:=rfl
theorem Zpp (j j2 d:Nat)  : V.ren j j2 (d+1) (.nils)= .nils:=rfl
theorem Zpq (j j2 d:Nat)(n s:Nat)(cs:List V):V.ren j j2 (d+1) (.view n s cs)= .view n s cs:=rfl
theorem Zpr (j j2 d:Nat)(cs:List V):V.ren j j2 (d+1) (.vptr cs)= .vptr cs:=rfl
theorem Zps (j j2 d:Nat)(cs:List V):V.ren j j2 (d+1) (.fagg cs)= .fagg cs:=rfl
theorem ZsL (j j2 d:Nat)(g:FuncId)(cs:List V):V.ren j j2 (d+1) (.clo g cs)= .clo g cs:=rfl
theorem ZsM (j j2 d:Nat)  : V.ren j j2 (d+1) (.any)= .any:=rfl
theorem ZsN (j j2 d:Nat)(k o n s:Nat):V.ren j j2 (d+1) (.ref k o n s)=bif k==j then .ref j2 o n s else bif k==j2 then .any else .ref k o n s:=rfl
theorem ZsO (j j2 d:Nat)(k o:Nat):V.ren j j2 (d+1) (.ptr k o)=bif k==j then .ptr j2 o else bif k==j2 then .any else .ptr k o:=rfl
theorem ZsP (j j2 d:Nat)(cs:List V):V.ren j j2 (d+1) (.agg cs)= .agg (cs.map (V.ren j j2 d)):=rfl
theorem ZsQ (j j2 d:Nat)(cs:List V):V.ren j j2 (d+1) (.tup cs)= .tup (cs.map (V.ren j j2 d)):=rfl
theorem Zzm (j j2 d:Nat)(g:FuncId)(cs:List V):V.ren j j2 (d+1) (.fn g cs)= .fn g (cs.map (V.ren j j2 d)):=rfl
theorem ZsR (j:Nat)(os:List V)(d:Nat)(k:IntKind)(x:Int):V.frz j os (d+1) (.int k x)= .int k x:=rfl
theorem Zpt (j:Nat)(os:List V)(d:Nat)(b:Bool):V.frz j os (d+1) (.bool b)= .bool b:=rfl
theorem ZsS (j:Nat)(os:List V)(d:Nat)(s:List UInt8):V.frz j os (d+1) (.str s)= .str s:=rfl
theorem ZsT (j:Nat)(os:List V)(d:Nat)(v:Value):V.frz j os (d+1) (.con v)= .con v:=rfl
theorem Zpu (j:Nat)(os:List V)(d:Nat)  : V.frz j os (d+1) (.nils)= .nils:=rfl
theorem Zpv (j:Nat)(os:List V)(d:Nat)(n s:Nat)(cs:List V):V.frz j os (d+1) (.view n s cs)= .view n s cs:=rfl
theorem Zpw (j:Nat)(os:List V)(d:Nat)(cs:List V):V.frz j os (d+1) (.vptr cs)= .vptr cs:=rfl
theorem Zpx (j:Nat)(os:List V)(d:Nat)(cs:List V):V.frz j os (d+1) (.fagg cs)= .fagg cs:=rfl
theorem ZsU (j:Nat)(os:List V)(d:Nat)(g:FuncId)(cs:List V):V.frz j os (d+1) (.clo g cs)= .clo g cs:=rfl
theorem ZsV (j:Nat)(os:List V)(d:Nat)  : V.frz j os (d+1) (.any)= .any:=rfl
theorem ZsW (j:Nat)(os:List V)(d:Nat)(k o n s:Nat):V.frz j os (d+1) (.ref k o n s)=bif k==j then .view n s ((os.drop o).take (n*s))else .ref k o n s:=rfl
theorem ZsX (j:Nat)(os:List V)(d:Nat)(k o:Nat):V.frz j os (d+1) (.ptr k o)=bif k==j then .vptr (os.drop o)else .ptr k o:=rfl
theorem ZsY (j:Nat)(os:List V)(d:Nat)(cs:List V):V.frz j os (d+1) (.agg cs)= .agg (cs.map (V.frz j os d)):=rfl
theorem ZsZ (j:Nat)(os:List V)(d:Nat)(cs:List V):V.frz j os (d+1) (.tup cs)= .tup (cs.map (V.frz j os d)):=rfl
theorem Zzn (j:Nat)(os:List V)(d:Nat)(g:FuncId)(cs:List V):V.frz j os (d+1) (.fn g cs)= .fn g (cs.map (V.frz j os d)):=rfl
theorem Zs0 (k:Nat)(cs:List V):ZaK.wipe k ⟨true,cs⟩=⟨true,cs⟩:=rfl
theorem Zs1 (k:Nat)(cs:List V):ZaK.wipe k ⟨false,cs⟩=⟨false,cs.map (V.wipe k 3)⟩:=rfl
theorem Zzo (k k2:Nat)(cs:List V):ZaK.ren k k2 ⟨true,cs⟩=⟨true,cs⟩:=rfl
theorem Zzp (k k2:Nat)(cs:List V):ZaK.ren k k2 ⟨false,cs⟩=⟨false,cs.map (V.ren k k2 3)⟩:=rfl
theorem Zzq (k:Nat)(os cs:List V):ZaK.frz k os ⟨true,cs⟩=⟨true,cs⟩:=rfl
theorem Zzr (k:Nat)(os cs:List V):ZaK.frz k os ⟨false,cs⟩=⟨false,cs.map (V.frz k os 3)⟩:=rfl
theorem Zpy (st:St)(k:IntKind)(x:Int):st.frzV (.int k x)=st:=rfl
theorem Zpz (st:St)(k:IntKind)(x:Int):st.frzC (.int k x)=st:=rfl
theorem Zml (st:St)(b:Bool):st.frzV (.bool b)=st:=rfl
theorem Zmm (st:St)(b:Bool):st.frzC (.bool b)=st:=rfl
theorem ZpA (st:St)(s:List UInt8):st.frzV (.str s)=st:=rfl
theorem ZpB (st:St)(s:List UInt8):st.frzC (.str s)=st:=rfl
theorem ZpC (st:St)(v:Value):st.frzV (.con v)=st:=rfl
theorem ZpD (st:St)(v:Value):st.frzC (.con v)=st:=rfl
theorem Zmn (st:St)  : st.frzV (.nils)=st:=rfl
theorem Zmo (st:St)  : st.frzC (.nils)=st:=rfl
theorem Zmp (st:St)(n s:Nat)(cs:List V):st.frzV (.view n s cs)=st:=rfl
theorem Zmq (st:St)(n s:Nat)(cs:List V):st.frzC (.view n s cs)=st:=rfl
theorem Zmr (st:St)(cs:List V):st.frzV (.vptr cs)=st:=rfl
theorem Zms (st:St)(cs:List V):st.frzC (.vptr cs)=st:=rfl
theorem Zmt (st:St)(cs:List V):st.frzV (.fagg cs)=st:=rfl
theorem Zmu (st:St)(cs:List V):st.frzC (.fagg cs)=st:=rfl
theorem ZpE (st:St)(g:FuncId)(cs:List V):st.frzV (.clo g cs)=st:=rfl
theorem ZpF (st:St)(g:FuncId)(cs:List V):st.frzC (.clo g cs)=st:=rfl
theorem ZpG (st:St)  : st.frzV (.any)=st:=rfl
theorem ZpH (st:St)  : st.frzC (.any)=st:=rfl
theorem ZpI (st:St)(vs:List V):st.frzV (.tup vs)=st:=rfl
theorem ZpJ (st:St)(vs:List V):st.frzC (.tup vs)=st:=rfl
theorem Zs2 (st:St)(g:FuncId)(cs:List V):st.frzV (.fn g cs)=st:=rfl
theorem Zs3 (st:St)(g:FuncId)(cs:List V):st.frzC (.fn g cs)=st:=rfl
theorem ZpK (st:St)(k o:Nat):st.frzV (.ptr k o)=st:=rfl
theorem ZpL (st:St)(k o:Nat):st.frzC (.ptr k o)=st:=rfl
theorem ZpM (st:St)(cs:List V):st.frzC (.agg cs)=st:=rfl
theorem ZpN (st:St)(k o n s:Nat):st.frzV (.ref k o n s)=st.freeze k:=rfl
theorem ZpO (st:St)(k o n s:Nat):st.frzC (.ref k o n s)=st.freeze k:=rfl
theorem ZpP (st:St)(cs:List V):st.frzV (.agg cs)=cs.foldl St.frzC st:=rfl
theorem ZgK (l:List Int)(k:Nat)(h:k<l.length):l.take (k+1)=l.take k++[l.getD k 0]:=by
 rw[List.take_succ_eq_append_getElem h];simp[List.getD,h]
theorem Zf4.mk {P:Program}{rs:List ResultVar}{R:V->List (Nat×List V)->Prop}{e:Exit}{st:St}{c:Prop}{r:V}{ks:List Nat}{m:List (Nat×List V)}
 (h:ZCa P st rs=some (c,r)) (hk:ZgG 4 r=some ks) (hm:ZB9 st ks=some m) (he:e= .ret\/e= .normal) (hc:c) (hR:R r m):Zf4 P rs R e st:=⟨he,c,r,ks,m,h,hc,hk,hm,hR⟩
end Go.Abs
namespace Go.Abs
open Go Go.RowKit
section
variable {P:Program}{C:Ctx}{S:Nat->Prop}{β:Nat->Option BI}{st st':St}{a:Act}{w w':World}{Q:Exit->St->Prop}{ops:Array Oper}{rest:List Oper}{o:Oper}
theorem Zmv (hm:st'.mem=st.mem)(op:Op)(h: ∀x∈op.operands,st'.ev x=st.ev x):vop P st' op=vop P st op:=by
 have hobj:st'.obj=st.obj:=by funext k;simp only[St.obj,hm]
 have hload: ∀t x,ZiL P st' t x=ZiL P st t x:=by intro t x;unfold ZiL;rw[hobj]
 have hslice: ∀t x lo hi,ZgA P st' t x lo hi=ZgA P st t x lo hi:=by intro t x lo hi;unfold ZgA;rw[hobj]
 have hconv: ∀t t2 x,ZjV P st' t t2 x=ZjV P st t t2 x:=by intro t t2 x;unfold ZjV;rw[hobj]
 have hl: ∀l:List Operand,(∀x∈l,st'.ev x=st.ev x)->l.map st'.ev=l.map st.ev:=fun l hl=>List.map_congr_left hl
 have ho: ∀x:Option Operand,(∀y,x=some y->st'.ev y=st.ev y)->x.map st'.ev=x.map st.ev:=by
  intro x hx;cases x with
  |none=>rfl
  |some y=>simp[hx y rfl]
 unfold vop
 split
 ·rw[h _ (by simp[Op.operands])]
 ·rename_i c x y
  rw[h c (by simp[Op.operands]),h x (by simp[Op.operands]),h y (by simp[Op.operands])]
 ·rename_i t ps
  unfold Zl4
  have:ZaR st' ps.toList=ZaR st ps.toList:=by
   unfold ZaR
   refine List.map_congr_left fun p hp=> ?_
   rw[h p.2 (by simp only[Op.operands,List.mem_toArray,Ya3];exact⟨p,hp,rfl⟩)]
  rw[this]
 ·rw[h _ (by simp[Op.operands]),hload]
 ·rename_i x y _
  rw[h x (by simp[Op.operands]),h y (by simp[Op.operands])]
 ·rw[h _ (by simp[Op.operands])]
 ·rw[h _ (by simp[Op.operands]),hconv]
 ·rename_i t x lo hi
  rw[h x (by simp[Op.operands]),ho lo (fun y hy=>h y (by simp[Op.operands,hy])),ho hi (fun y hy=>h y (by simp[Op.operands,hy])),hslice]
 ·rw[h _ (by simp[Op.operands])]
 ·rw[h _ (by simp[Op.operands])]
 ·rename_i t x i
  rw[h x (by simp[Op.operands]),h i (by simp[Op.operands])]
 ·rename_i t x i
  rw[h x (by simp[Op.operands]),h i (by simp[Op.operands])]
 ·rw[h _ (by simp[Op.operands])]
 ·rw[h _ (by simp[Op.operands])]
 ·rename_i f first captured
  rw[hl captured.toList (fun x hx=>h x (by simp only[Op.operands,Array.mem_append];exact .inr (by simpa using hx)))]
 ·rename_i args argTypes
  have ha: ∀x∈args.toList,st'.ev x=st.ev x:=fun x hx=>h x (by simp only[Op.operands,Call.operands,Array.mem_append];exact .inr (by simpa using hx))
  split
  ·rename_i x t e1 e2
   rw[ha x (by rw[e1];simp)]
  ·rfl
 ·rename_i args argTypes
  rw[hl args.toList (fun x hx=>h x (by simp only[Op.operands,Call.operands,Array.mem_append];exact .inr (by simpa using hx)))]
 ·rename_i args argTypes
  rw[hl args.toList (fun x hx=>h x (by simp only[Op.operands,Call.operands,Array.mem_append];exact .inr (by simpa using hx)))]
 ·rfl
def Zdi (P:Program)(st:St)(o:Oper)(v:V):Prop:=
 ∀st':St,st'.n=st.n->st'.mem=st.mem->st'.lent=st.lent->(∀x∈o.op.operands,st'.ev x=st.ev x)->
  ∀(C:Ctx) (a:Act) (w:World) (K:Act->World->Prop) (Q':Exit->Act->World->Prop) (d:Nat),o.dst=some d->d<st.n->SRx C st' a w->
   (∀a' w',SRx C (st'.put d v) a' w'->K a' w')->o.wp P a w K Q'
theorem Zdi.op {c:Prop}{v:V}(h:vop P st o.op=some (c,v))(hc:c):Zdi P st o v:=by
 intro st' hn hm hl he C a w K Q' d hd hdn ⟨S,β,hs⟩ hK
 rw[<- Zmv hm o.op he]at h
 obtain⟨u,hr,hv⟩:=ZgF h hc hs
 unfold Oper.wp
 rw[hr]
 show K (a.put o.dst u) w
 rw[hd]
 exact hK _ _ ⟨S,β,hs.put (by rw[hn];exact hdn) hv⟩
theorem Zdi.call {f:FuncId}{args:Array Operand}{argTypes:Array TypeId}{v:V}{R:V->List (Nat×List V)->Prop}(ho:o.op= .call { callee:= .value (.func f),args,argTypes })(hf:Za P f=true)
 (hfl:((args.toList.map st.ev).all ZcY)=true) (hAC:AC P f (args.toList.map st.ev) R) (hR: ∀r m,R r m->r=v/\m=[]) (hv: ∀d,Zae d 4 v=v):Zdi P st o v:=by
 intro st' hn hm hl he C a w K Q' d hd hdn ⟨S,β,hs⟩ hK
 have hev:args.toList.map st'.ev=args.toList.map st.ev:=List.map_congr_left fun x hx=>he x (by
  rw[ho];simp only[Op.operands,Call.operands,Array.mem_append];exact .inr (by simpa using hx))
 rw[<- hev]at hfl hAC
 unfold Oper.wp
 rw[Zfy ho hf]
 have hc:=hAC S w (args.toList.map a.eval) hs.sok (by simp) (fun j v u hv hu=>by
  rw[Yat]at hfl
  exact Zhs (ZiQ hs _ j v u hv hu) (hfl v (Ya0 hv)))
 have e:(args.toList.map a.eval).toArray=args.map a.eval:=by rw[<- Array.toList_map]
 rw[e]at hc
 refine Calls.mono hc ?_
 rintro e' w' ⟨r,m,u,hr,rfl,⟨S',β',h1,h2,h3,h4,h5,h6,h7,h8⟩,hfr⟩
 have:=hs.called (d:=d) (by rw[hn];exact hdn) hfr h1 h2 h3 h4 h5 h6 h7 h8
 obtain⟨rfl,rfl⟩:=hR r m hr
 show K (a.put o.dst u) w'
 rw[hd]
 rw[hv]at this
 exact hK _ _ this
end
end Go.Abs
namespace Go.Abs
open Go Go.RowKit
theorem ZdB: ∀(k:Nat) (ls:List Nat),ls.Nodup->(∀j∈ls,j<k)->ls.length<=k
 |0,ls,_,h=>by
  cases ls with
  |nil=>exact Nat.le_refl _
  |cons x l=>exact absurd (h x (by simp)) (Nat.not_lt_zero _)
 |k+1,ls,hn,h=>by
  by_cases hk:k∈ls
  ·have:=ZdB k (ls.erase k) (hn.erase k) (fun j hj=>by
     have h1:=h j (List.mem_of_mem_erase hj)
     have h2:j≠k:=fun e=>by subst e;exact(List.Nodup.not_mem_erase hn) hj
     omega)
   rw[List.length_erase_of_mem hk]at this
   omega
  ·have:=ZdB k ls hn (fun j hj=>by
     have h1:=h j hj
     have h2:j≠k:=fun e=>by subst e;exact hk hj
     omega)
   omega
def Zmw (ms:List Nat)(o:Oper):Nat:=o.after.toList.foldl (fun m e=>bif Region.binds .any e then m ||| (1 <<< e.on) ||| ms.getD e.on 0 else m) 0
def Zgj (ops:List Oper):List Nat:=ops.foldl (fun ms o=>ms++[Zmw ms o]) []
def Zs4 (o:Oper)(i:Nat):Prop:= ∃e∈o.after,Region.binds .any e=true/\e.on=i
theorem Zn2 {ms:List Nat}{o:Oper}{j:Nat}(h:(Zmw ms o).testBit j=true): ∃i,Zs4 o i/\(j=i\/(ms.getD i 0).testBit j=true):=by
 unfold Zmw at h
 have: ∀(l:List Edge) (m:Nat),(l.foldl (fun m e=>bif Region.binds .any e then m ||| (1 <<< e.on) ||| ms.getD e.on 0 else m) m).testBit j=true->
  m.testBit j=true\/ ∃e∈l,Region.binds .any e=true/\(j=e.on\/(ms.getD e.on 0).testBit j=true):=by
  intro l
  induction l with
  |nil=>intro m h;exact .inl h
  |cons e l ih=>
   intro m h
   rw[List.foldl_cons]at h
   rcases ih _ h with h|⟨e',he,h⟩
   ·cases hb:Region.binds .any e with
    |false=>rw[hb]at h;exact .inl h
    |true=>
     rw[hb,cond_true,Nat.testBit_or,Nat.testBit_or,Bool.or_eq_true,Bool.or_eq_true]at h
     rcases h with(h|h)|h
     ·exact .inl h
     ·rw[Nat.one_shiftLeft,Nat.testBit_two_pow]at h
      exact .inr ⟨e,by simp,hb,.inl (of_decide_eq_true h).symm⟩
     ·exact .inr ⟨e,by simp,hb,.inr h⟩
   ·exact .inr ⟨e',by simp[he],h⟩
 rcases this _ _ h with h|⟨e,he,hb,h⟩
 ·simp at h
 ·exact⟨e.on,⟨e,by simpa using he,hb,rfl⟩,h⟩
theorem ZbD {ops:List Oper}{L:Nat->Prop}(hcl: ∀i o,ops[i]? = some o->L i-> ∀j,Zs4 o j->L j) :
 ∀(i:Nat) (o:Oper) (j:Nat),ops[i]? = some o->(∀j,Zs4 o j->L j)->((Zgj ops).getD i 0).testBit j=true->L j:=by
 have: ∀(l pre:List Oper) (ms:List Nat),ms.length=pre.length->(∀i o,(pre++l)[i]? = some o->L i-> ∀j,Zs4 o j->L j)->
  (∀(i:Nat) (o:Oper) (j:Nat),pre[i]? = some o->(∀j,Zs4 o j->L j)->(ms.getD i 0).testBit j=true->L j)->
  (∀(i:Nat) (o:Oper) (j:Nat),(pre++l)[i]? = some o->(∀j,Zs4 o j->L j)->((l.foldl (fun ms o=>ms++[Zmw ms o]) ms).getD i 0).testBit j=true->L j):=by
  intro l
  induction l with
  |nil=>intro pre ms hlen _ h i o j hi hd hb;exact h i o j (by simpa using hi) hd hb
  |cons o l ih=>
   intro pre ms hlen hcl h i o' j hi hd hb
   rw[List.foldl_cons]at hb
   refine ih (pre++[o]) (ms++[Zmw ms o]) (by simp[hlen]) (by simpa using hcl) ?_ i o' j (by simpa using hi) hd hb
   intro i o' j hi hd hb
   by_cases hlt:i<pre.length
   ·refine h i o' j (by rw[Ya1 hlt]at hi;exact hi) hd ?_
    rw[Yah,Ya1 (by omega),<- Yah]at hb
    exact hb
   ·by_cases he:i=pre.length
    ·subst he
     have e1:o'=o:=by simpa using hi.symm
     subst e1
     rw[Yah,<- hlen,List.getElem?_concat_length]at hb
     obtain⟨m,hm,h1⟩:=Zn2 hb
     have hLm:=hd m hm
     rcases h1 with rfl|h1
     ·exact hLm
     ·cases hpm:pre[m]? with
      |none=>
       rw[Yah,List.getElem?_eq_none (by rw[hlen];simpa using hpm)]at h1
       simp at h1
      |some om=>
       refine h m om j hpm (hcl m om ?_ hLm) h1
       rw[Ya1 (Yak.1 hpm).1];exact hpm
    ·rw[List.getElem?_eq_none (by simp;omega)]at hi;cases hi
 intro i o j hi hd hb
 exact this ops [] [] rfl hcl (fun i o j hi=>by simp at hi) i o j hi hd hb
def St.puts (st:St)(ps:List (Nat×V)):St:=ps.foldl (fun st p=>st.put p.1 p.2) st
theorem ZgL (ps:List (Nat×V)): ∀st:St,(st.puts ps).n=st.n/\(st.puts ps).mem=st.mem/\(st.puts ps).lent=st.lent:=by
 induction ps with
 |nil=>intro st;exact⟨rfl,rfl,rfl⟩
 |cons p ps ih=>intro st;exact ih (st.put p.1 p.2)
def Ag (ps:List (Nat×V))(L:Nat->Prop)(st st':St):Prop:=
 ∀t,(∃i p,ps[i]? = some p/\p.1=t/\L i/\st'.get t=p.2)\/((∀i p,ps[i]? = some p->p.1=t-> ¬L i)/\st'.get t=st.get t)
theorem Ag.put {ps:List (Nat×V)}{L L':Nat->Prop}{st st':St}(h:Ag ps L st st'){i d:Nat}{v:V}(hi:ps[i]? = some (d,v))(hL: ∀j,L' j↔j=i\/L j):Ag ps L' st (st'.put d v):=by
 intro t
 by_cases ht:t=d
 ·subst ht
  exact .inl ⟨i,_,hi,rfl,(hL i).2 (.inl rfl),by rw[St.get_put];simp⟩
 ·rcases h t with⟨j,p,hj,hp,hLj,hg⟩|⟨hno,hg⟩
  ·exact .inl ⟨j,p,hj,hp,(hL j).2 (.inr hLj),by rw[St.get_put,if_neg ht];exact hg⟩
  ·refine .inr ⟨fun j p hj hp hLj=> ?_,by rw[St.get_put,if_neg ht];exact hg⟩
   rcases(hL j).1 hLj with rfl|h1
   ·rw[hi]at hj;cases hj;exact ht hp.symm
   ·exact hno j p hj hp h1
theorem Ag.text (ps:List (Nat×V))(st:St): ∀i,i<=ps.length->Ag ps (fun j=>j<i) st (st.puts (ps.take i)):=by
 intro i
 induction i with
 |zero=>intro _ t;exact .inr ⟨fun j p _ _ h=>Nat.not_lt_zero _ h,rfl⟩
 |succ i ih=>
  intro hi
  have hlt:i<ps.length:=by omega
  have e:st.puts (ps.take (i+1))=(st.puts (ps.take i)).put (ps[i]).1 (ps[i]).2:=by
    rw[List.take_succ_eq_append_getElem hlt]
    simp only[St.puts,List.foldl_append,List.foldl_cons,List.foldl_nil]
  rw[e]
  exact(ih (by omega)).put (i:=i) (Yab hlt) (fun j=>by omega)
section
variable {P:Program}{C:Ctx}{S:Nat->Prop}{β:Nat->Option BI}{st st':St}{a:Act}{w w':World}{Q:Exit->St->Prop}{ops:Array Oper}{rest:List Oper}{o:Oper}
theorem SR.ext (h:SR C S β st a w)(hn:st'.n=st.n)(hm:st'.mem=st.mem)(hl:st'.lent=st.lent)(hg: ∀t,st'.get t=st.get t):SR C S β st' a w:=by
 have ho:st'.obj=st.obj:=by funext k;simp only[St.obj,hm]
 exact{ tsize:=by rw[hn];exact h.tsize,slots:=fun i=>by rw[hg];exact h.slots i,defers:=h.defers,objs:=by rw[ho];exact h.objs,inj:=by rw[ho];exact h.inj,
        own:=by rw[ho,hl];exact h.own,pins:=by rw[hl];exact h.pins,sub:=h.sub,snew:=h.snew,slt:=h.slt,frame:=h.frame }
def Res (P:Program)(ops:Array Oper)(st:St)(o:Oper)(v:V):Prop:=
 (o.guard=none/\Zdi P st o v)\/ ∃j want y dj,o.guard=some (j,want)/\(ops[j]?).bind (·.dst)=some dj/\dj<st.n/\GV (st.get dj) y/\((y=some want/\Zdi P st o v)\/(y≠some want/\v= .con undef))
def DWL (P:Program)(ops:Array Oper)(tail:List Oper)(Q:Exit->St->Prop):List Oper->St->Prop
 |[],st=>AWL P ops tail Q st
 |o::rest,st=> ∃d v,o.dst=some d/\d<st.n/\Res P ops st o v/\DWL P ops tail Q rest (st.put d v)
theorem DWL.out {tail:List Oper}: ∀{l:List Oper} {st:St},DWL P ops tail Q l st-> ∃ps:List (Nat×V),ps.length=l.length/\
 (∀i o p,l[i]? = some o->ps[i]? = some p->o.dst=some p.1/\p.1<st.n/\Res P ops (st.puts (ps.take i)) o p.2)/\AWL P ops tail Q (st.puts ps)
 |[],_,h=>⟨[],rfl,fun i o p hi=>by simp at hi,h⟩
 |o::rest,st,⟨d,v,hd,hn,hr,h⟩=>by
  obtain⟨ps,h1,h2,h3⟩:=DWL.out h
  refine⟨(d,v)::ps,by simp[h1],?_,h3⟩
  intro i o' p hi hp
  cases i with
  |zero=>
   simp only[List.getElem?_cons_zero,Yac]at hi hp
   subst hi;subst hp
   exact⟨hd,hn,hr⟩
  |succ i=>
   simp only[List.getElem?_cons_succ]at hi hp
   obtain⟨g1,g2,g3⟩:=h2 i o' p hi hp
   exact⟨g1,g2,g3⟩
end
end Go.Abs
namespace Go.Abs
open Go Go.RowKit
def ZkO (ops:List Oper)(k:Nat):Bool:=
 decide (k<=ops.length) &&
 ((List.range ops.length).all fun i=>match ops[i]? with
   |some o=>o.after.toList.all fun e=> !Region.binds .any e||decide (e.on<i)
   |none=>true) &&
 ((List.range k).all fun i=>(List.range k).all fun j=>match ops[i]?,ops[j]? with
   |some o,some p=>match p.dst with
    |some d=>(i==j||o.dst != some d)&&(!(o.looksAt ops.toArray).contains d||((Zgj ops).getD i 0).testBit j)
    |none=>true
   |_,_=>true) &&
 ((List.range ops.length).all fun i=>decide (i<k)||(List.range i).all fun j=>((Zgj ops).getD i 0).testBit j)
structure Chk (ops:List Oper)(k:Nat):Prop where
 le:k<=ops.length
 topo: ∀i o j,ops[i]? = some o->Zs4 o j->j<i
 dist: ∀i j o p d,i<k->j<k->ops[i]? = some o->ops[j]? = some p->o.dst=some d->p.dst=some d->i=j
 reads: ∀i j o p d,i<k->j<k->ops[i]? = some o->ops[j]? = some p->p.dst=some d->d∈o.looksAt ops.toArray->((Zgj ops).getD i 0).testBit j=true
 tail: ∀i j,k<=i->i<ops.length->j<i->((Zgj ops).getD i 0).testBit j=true
theorem ZwO {ops:List Oper}{k:Nat}(h:ZkO ops k=true):Chk ops k:=by
 unfold ZkO at h
 simp only[Yao,Yaz,Yat,List.mem_range]at h
 obtain⟨⟨⟨h1,h2⟩,h3⟩,h4⟩:=h
 refine⟨h1,?_,?_,?_,?_⟩
 ·intro i o j hi ⟨e,he,hb,hj⟩
  have hlt:=(Yak.1 hi).1
  have:=h2 i hlt
  rw[hi]at this
  simp only[Yat]at this
  have:=this e (by simpa using he)
  rw[hb]at this
  simp only[Bool.not_true,Bool.false_or,Yaz]at this
  omega
 ·intro i j o p d hi hj ho hp hod hpd
  have:=h3 i hi j hj
  rw[ho,hp]at this
  simp only[hpd,Yao,Bool.or_eq_true,beq_iff_eq,bne_iff_ne,ne_eq,hod,not_true_eq_false,or_false]at this
  exact this.1
 ·intro i j o p d hi hj ho hp hpd hd
  have:=h3 i hi j hj
  rw[ho,hp]at this
  simp only[hpd,Yao,Bool.or_eq_true]at this
  rcases this.2 with h|h
  ·simp[hd]at h
  ·exact h
 ·intro i j hk hi hj
  have:=h4 i hi
  simp only[Bool.or_eq_true,Yaz,Yat,List.mem_range]at this
  rcases this with h|h
  ·omega
  ·exact h j hj
section
variable {P:Program}{C:Ctx}{S:Nat->Prop}{β:Nat->Option BI}{st st':St}{a:Act}{w w':World}{Q:Exit->St->Prop}{l:List Oper}{rest:List Oper}{o:Oper}
def LS (L:Array Bool)(j:Nat):Prop:=L.getD j false=true
structure Ze9 (l:List Oper)(L:Array Bool)(ls:List Nat):Prop where
 size:L.size=l.length
 nodup:ls.Nodup
 mem: ∀j,j∈ls↔LS L j
 lt: ∀j∈ls,j<l.length
 closed: ∀i o,l[i]? = some o->LS L i-> ∀j,Zs4 o j->LS L j
theorem Zcc {L:Array Bool}{ls:List Nat}(h:Ze9 l L ls){j:Nat}:j∈Region.ready .any l.toArray L ↔ ¬LS L j/\ ∃o,l[j]? = some o/\ ∀i,Zs4 o i->LS L i:=by
 rw[mem_ready]
 constructor
 ·rintro⟨h1,o,ho,h2⟩
  have hlt:j<l.length:=by
   have:l[j]? = some o:=by simpa using ho
   exact(Yak.1 this).1
  refine⟨fun h3=> ?_,o,by simpa using ho,fun i ⟨e,he,hb,hi⟩=>hi▸h2 e he hb⟩
  unfold LS at h3
  rw[Yan,Array.getElem?_eq_getElem (by rw[h.size];exact hlt)]at h1 h3
  simp only[Option.getD_some]at h1 h3
  rw[h1]at h3;cases h3
 ·rintro⟨h1,o,ho,h2⟩
  have hlt:j<l.length:=(Yak.1 ho).1
  refine⟨?_,o,by simpa using ho,fun e he hb=>h2 e.on ⟨e,he,hb,rfl⟩⟩
  unfold LS at h1
  rw[Yan,Array.getElem?_eq_getElem (by rw[h.size];exact hlt)]at h1 ⊢
  simpa using h1
theorem Zf5 {L:Array Bool}{i j:Nat}(hi:i<L.size):LS (L.setIfInBounds i true) j↔j=i\/LS L j:=by
 unfold LS
 rw[Yan,Yan,Array.getElem?_setIfInBounds]
 by_cases h:i=j
 ·subst h;simp[hi]
 ·rw[if_neg h]
  constructor
  ·exact .inr
  ·rintro(e|h')
   ·exact absurd e.symm h
   ·exact h'
theorem Ze9.step {L:Array Bool}{ls:List Nat}(h:Ze9 l L ls){i:Nat}(hi:i∈Region.ready .any l.toArray L):Ze9 l (L.setIfInBounds i true) (i::ls):=by
 obtain⟨h1,o,ho,h2⟩:=(Zcc h).1 hi
 have hlt:i<l.length:=(Yak.1 ho).1
 have hs:i<L.size:=by rw[h.size];exact hlt
 refine⟨by simpa using h.size,List.nodup_cons.2 ⟨fun hm=>h1 ((h.mem i).1 hm),h.nodup⟩,fun j=> ?_,?_,?_⟩
 ·rw[Zf5 hs,Yav,h.mem]
 ·intro j hj
  rcases Yav.1 hj with rfl|hj
  ·exact hlt
  ·exact h.lt j hj
 ·intro i' o' ho' hL j hd
  rw[Zf5 hs]at hL ⊢
  rcases hL with rfl|hL
  ·rw[ho]at ho';cases ho'
   exact .inr (h2 j hd)
  ·exact .inr (h.closed i' o' ho' hL j hd)
theorem ZAx {k:Nat}(hc:Chk l k){Q:Exit->Act->World->Prop}: ∀(fuel m:Nat) (L:Array Bool) (ls:List Nat) (a:Act) (w:World),Ze9 l L ls->k<=m->m<=l.length->(∀j,LS L j↔j<m)->l.length<=fuel+m->
 wpList P l.toArray Q (l.drop m) a w->wpAny P .any l.toArray Q fuel L a w:=by
 intro fuel
 have next: ∀(m:Nat) (L:Array Bool) (ls:List Nat),Ze9 l L ls->k<=m->(∀j,LS L j↔j<m)-> ∀i,i∈Region.ready .any l.toArray L↔i=m/\m<l.length:=by
  intro m L ls hl hk hL i
  rw[Zcc hl]
  constructor
  ·rintro⟨h1,o,ho,h2⟩
   have hlt:i<l.length:=(Yak.1 ho).1
   rw[hL]at h1
   have:i=m:=by
    by_cases hne:i=m
    ·exact hne
    ·have hmi:m<i:=by omega
     have:=ZbD (L:=LS L) hl.closed i o m ho h2 (hc.tail i m (by omega) hlt hmi)
     rw[hL]at this
     omega
   exact⟨this,by omega⟩
  ·rintro⟨rfl,hlt⟩
   refine⟨by rw[hL];omega,l[i],Yab hlt,fun j hd=> ?_⟩
   rw[hL]
   exact hc.topo i _ j (Yab hlt) hd
 induction fuel with
 |zero=>
  intro m L ls a w hl hk hm hL hf hw
  have hml:m=l.length:=by omega
  rw[hml,List.drop_length]at hw
  refine⟨?_,hw⟩
  cases hr:Region.ready .any l.toArray L with
  |nil=>rfl
  |cons x xs=>have:=(next m L ls hl hk hL x).1 (by rw[hr];simp);omega
 |succ fuel ih=>
  intro m L ls a w hl hk hm hL hf hw
  refine⟨fun hr=> ?_,fun i hi=> ?_⟩
  ·have: ¬m<l.length:=fun hlt=>by
     have:=(next m L ls hl hk hL m).2 ⟨rfl,hlt⟩
     rw[hr]at this;cases this
   have hml:m=l.length:=by omega
   rw[hml,List.drop_length]at hw
   exact hw
  ·obtain⟨rfl,hlt⟩:=(next m L ls hl hk hL i).1 hi
   have hst:=hl.step hi
   have hs:i<L.size:=by rw[hl.size];exact hlt
   have hK: ∀a w,wpList P l.toArray Q (l.drop (i+1)) a w->wpAny P .any l.toArray Q fuel (L.setIfInBounds i true) a w:=fun a w hw=>
     ih (i+1) _ _ a w hst (by omega) hlt (fun j=>by rw[Zf5 hs,hL];omega) (by omega) hw
   rw[List.drop_eq_getElem_cons hlt]at hw
   refine wpOp_mono hK ?_
   unfold wpOp
   have e:l.toArray[i]? = some l[i]:=by simp[hlt]
   rw[e]
   exact hw
end
end Go.Abs
namespace Go.Abs
open Go Go.RowKit
section
variable {P:Program}{C:Ctx}{S:Nat->Prop}{β:Nat->Option BI}{st st':St}{a:Act}{w w':World}{l:List Oper}{rest:List Oper}{o:Oper}
theorem ZpQ {x:Operand}(h: ∀t,x= .tmp t->st'.get t=st.get t):st'.ev x=st.ev x:=by
 cases x with
 |tmp t=>exact h t rfl
 |_=>rfl
theorem ZAy {Q:Exit->St->Prop}{k:Nat}(hc:Chk l k){ps:List (Nat×V)}(hps:ps.length=k)
 (hres: ∀i o p,(l.take k)[i]? = some o->ps[i]? = some p->o.dst=some p.1/\p.1<st.n/\Res P l.toArray (st.puts (ps.take i)) o p.2)
 (htail:AWL P l.toArray (l.drop k) Q (st.puts ps)): ∀(fuel:Nat) (L:Array Bool) (ls:List Nat) (st':St) (a:Act) (w:World),Ze9 l L ls->(∀j,LS L j->j<k)->fuel+ls.length=l.length->
  st'.n=st.n->st'.mem=st.mem->st'.lent=st.lent->Ag ps (LS L) st st'->SRx C st' a w->wpAny P .any l.toArray (AQ C Q) fuel L a w:=by
 intro fuel
 have hkl:=hc.le
 have full: ∀(fuel:Nat) (L:Array Bool) (ls:List Nat) (st':St) (a:Act) (w:World),Ze9 l L ls->(∀j,LS L j↔j<k)->l.length<=fuel+k->
  st'.n=st.n->st'.mem=st.mem->st'.lent=st.lent->Ag ps (LS L) st st'->SRx C st' a w->wpAny P .any l.toArray (AQ C Q) fuel L a w:=by
  intro fuel L ls st' a w hl hL hf hn hm hlt hag ⟨S,β,hs⟩
  refine ZAx hc fuel k L ls a w hl (Nat.le_refl _) hkl hL hf ?_
  refine htail C a w ⟨S,β,hs.ext (by rw[hn];exact(ZgL ps st).1) (by rw[hm];exact(ZgL ps st).2.1) (by rw[hlt];exact(ZgL ps st).2.2) fun t=> ?_⟩
  have hag2:=Ag.text ps st k (by omega)
  rw[Yad (by omega)]at hag2
  rcases hag t with⟨i,p,hi,hp,hLi,hg⟩|⟨hno,hg⟩
  ·rcases hag2 t with⟨j,q,hj,hq,hLj,hg2⟩|⟨hno2,hg2⟩
   ·have hik:i<k:=(hL i).1 hLi
    have hio:(l.take k)[i]? = some l[i]:=by rw[List.getElem?_take,if_pos hik];exact Yab (by omega)
    have hjo:(l.take k)[j]? = some l[j]:=by rw[List.getElem?_take,if_pos hLj];exact Yab (by omega)
    have e1:=(hres i _ p hio hi).1
    have e2:=(hres j _ q hjo hj).1
    have:=hc.dist i j l[i] l[j] t hik hLj (Yab (by omega)) (Yab (by omega)) (by rw[e1,hp]) (by rw[e2,hq])
    subst this
    rw[hi]at hj;cases hj
    rw[hg2,hg]
   ·exact absurd ((hL i).1 hLi) (hno2 i p hi hp)
  ·rcases hag2 t with⟨j,q,hj,hq,hLj,hg2⟩|⟨hno2,hg2⟩
   ·exact absurd ((hL j).2 hLj) (hno j q hj hq)
   ·rw[hg2,hg]
 have left: ∀(L:Array Bool) (ls:List Nat),Ze9 l L ls->(∀j,LS L j->j<k)->(∀j,LS L j↔j<k)\/ ∃i,i<k/\i∈Region.ready .any l.toArray L:=by
  intro L ls hl hL
  by_cases h: ∃i,i<k/\ ¬LS L i
  ·obtain⟨i,⟨hik,hni⟩,hmin⟩:=ZsG (fun i=>i<k/\ ¬LS L i) h
   refine .inr ⟨i,hik,(Zcc hl).2 ⟨hni,l[i],Yab (by omega),fun j hd=> ?_⟩⟩
   have hji:=hc.topo i _ j (Yab (by omega)) hd
   by_cases hLj:LS L j
   ·exact hLj
   ·have:=hmin j ⟨by omega,hLj⟩;omega
  ·refine .inl fun j=>⟨hL j,fun hj=> ?_⟩
   by_cases hLj:LS L j
   ·exact hLj
   ·exact absurd ⟨j,hj,hLj⟩ h
 induction fuel with
 |zero=>
  intro L ls st' a w hl hL hf hn hm hlt hag hs
  rcases left L ls hl hL with h|⟨i,hik,hi⟩
  ·have:=ZdB k ls hl.nodup (fun j hj=>hL j ((hl.mem j).1 hj))
   exact full 0 L ls st' a w hl h (by omega) hn hm hlt hag hs
  ·have hst:=hl.step hi
   have:=ZdB l.length (i::ls) hst.nodup hst.lt
   simp only[Yag]at this
   omega
 |succ fuel ih=>
  intro L ls st' a w hl hL hf hn hm hlt hag hs
  rcases left L ls hl hL with h|⟨i0,hik0,hi0⟩
  ·have:=ZdB k ls hl.nodup (fun j hj=>hL j ((hl.mem j).1 hj))
   exact full (fuel+1) L ls st' a w hl h (by omega) hn hm hlt hag hs
  ·refine⟨fun hr=>(by rw[hr]at hi0;cases hi0),fun i hi=> ?_⟩
   obtain⟨hni,o,ho,hdir⟩:=(Zcc hl).1 hi
   have hlen:i<l.length:=(Yak.1 ho).1
   have hik:i<k:=by
     by_cases hlt':i<k
     ·exact hlt'
     ·have h0:=((Zcc hl).1 hi0).1
      exact absurd (ZbD (L:=LS L) hl.closed i o i0 ho hdir (hc.tail i i0 (by omega) hlen (by omega))) h0
   have hio:(l.take k)[i]? = some o:=by rw[List.getElem?_take,if_pos hik];exact ho
   have hp:ps[i]? = some ps[i]:=Yab (by omega)
   obtain⟨hd,hdn,hr⟩:=hres i o _ hio hp
   have hst:=hl.step hi
   have hsz:i<L.size:=by rw[hl.size];exact hlen
   have hag2:=Ag.text ps st i (by omega)
   have hsame:=ZgL (ps.take i) st
   have hlook: ∀t,t∈o.looksAt l.toArray->st'.get t=(st.puts (ps.take i)).get t:=by
     intro t ht
     rcases hag t with⟨j,p,hj,hpt,hLj,hg⟩|⟨hno,hg⟩
     ·have hjk:j<k:=hL j hLj
      have hjo:(l.take k)[j]? = some l[j]:=by rw[List.getElem?_take,if_pos hjk];exact Yab (by omega)
      have e1:=(hres j _ p hjo hj).1
      rcases hag2 t with⟨j',q,hj',hq,hLj',hg2⟩|⟨hno2,hg2⟩
      ·have hjo':(l.take k)[j']? = some l[j']:=by rw[List.getElem?_take,if_pos (by omega)];exact Yab (by omega)
       have e2:=(hres j' _ q hjo' hj').1
       have:=hc.dist j j' l[j] l[j'] t hjk (by omega) (Yab (by omega)) (Yab (by omega)) (by rw[e1,hpt]) (by rw[e2,hq])
       subst this
       rw[hj]at hj';cases hj'
       rw[hg2,hg]
      ·have hb:=hc.reads i j o l[j] t hik hjk ho (Yab (by omega)) (by rw[e1,hpt]) ht
       have hji:j<i:=ZbD (ops:=l) (L:=fun j=>j<i) (fun i' o' ho' hL' j' hd'=>Nat.lt_trans (hc.topo i' o' j' ho' hd') hL') i o j ho (fun j' hd'=>hc.topo i o j' ho hd') hb
       exact absurd hji (hno2 j p hj hpt)
     ·rcases hag2 t with⟨j',q,hj',hq,hLj',hg2⟩|⟨hno2,hg2⟩
      ·have hjo':(l.take k)[j']? = some l[j']:=by rw[List.getElem?_take,if_pos (by omega)];exact Yab (by omega)
       have e2:=(hres j' _ q hjo' hj').1
       have hb:=hc.reads i j' o l[j'] t hik (by omega) ho (Yab (by omega)) (by rw[e2,hq]) ht
       exact absurd (ZbD (L:=LS L) hl.closed i o j' ho hdir hb) (hno j' q hj' hq)
      ·rw[hg2,hg]
   have hops: ∀x∈o.op.operands,st'.ev x=(st.puts (ps.take i)).ev x:=fun x hx=>ZpQ fun t ht=>hlook t (by
     unfold Oper.looksAt
     refine List.mem_append_left _ (List.mem_filterMap.2 ⟨x,by simpa using hx,by rw[ht]⟩))
   have hag':Ag ps (LS (L.setIfInBounds i true)) st (st'.put ps[i].1 ps[i].2):=hag.put hp (fun j=>Zf5 hsz)
   have hnext: ∀a' w',SRx C (st'.put ps[i].1 ps[i].2) a' w'->wpAny P .any l.toArray (AQ C Q) fuel (L.setIfInBounds i true) a' w':=fun a' w' hs'=>
     ih (L.setIfInBounds i true) (i::ls) (st'.put ps[i].1 ps[i].2) a' w' hst (fun j hj=>by
      rcases(Zf5 hsz).1 hj with rfl|hj
      ·exact hik
      ·exact hL j hj) (by simp only[Yag];omega) hn hm hlt hag' hs'
   unfold wpOp
   have e:l.toArray[i]? = some o:=by simpa using ho
   rw[e]
   simp only
   rcases hr with⟨hg,hq⟩|⟨j,want,t,dj,hg,hdj,hdjn,hgt,hcase⟩
   ·rw[if_pos (by simp[Region.wanted,hg])]
    exact .inl (hq st' (by rw[hn,hsame.1]) (by rw[hm,hsame.2.1]) (by rw[hlt,hsame.2.2]) hops C a w _ _ _ hd (by rw[hsame.1];exact hdn) hs hnext)
   ·have hgt':GV (st'.get dj) t:=by
      rw[hlook dj (by
       unfold Oper.looksAt
       refine List.mem_append_right _ ?_
       rw[hg]
       show dj∈Option.toList ((l.toArray[j]?).bind (·.dst))
       rw[hdj]
       simp)];exact hgt
    obtain⟨S,β,hs1⟩:=hs
    have hy:=Zhq (ops:=l.toArray) hdj (by rw[hn,<- hsame.1];exact hdjn) hgt' hs1
    rcases hcase with⟨htw,hq⟩|⟨htw,hv⟩
    ·rw[if_pos (by simp[Region.wanted,hg,hy,htw])]
     exact .inl (hq st' (by rw[hn,hsame.1]) (by rw[hm,hsame.2.1]) (by rw[hlt,hsame.2.2]) hops C a w _ _ _ hd (by rw[hsame.1];exact hdn) ⟨S,β,hs1⟩ hnext)
    ·rw[if_neg (by simp[Region.wanted,hg,hy,htw])]
     refine hnext _ _ ?_
     rw[hd,hv]
     exact⟨S,β,hs1.put (by rw[hn];exact hdn) (.flat (.con _))⟩
end
theorem SR.drawn {C:Ctx}{S:Nat->Prop}{β:Nat->Option BI}{st:St}{a:Act}{w:World}(h:SR C S β st a w)(n:Nat):SRx C st a { w with drawn:=n }:=
 let h1:=h.grow (w':={ w with drawn:=n }) rfl rfl rfl (Nat.le_refl _) (fun _ _=>rfl) (fun _ hb=>hb) (fun _ hb=> .inl hb)
 ⟨S,β,h1⟩
theorem AW.draw {P:Program}{st:St}{l:List Oper}{Q:Exit->St->Prop}{id:Nat}(k:Nat)(hm:P.follows .mixedOrders=true)(hc:ZkO l k=true)
 (h:DWL P l.toArray (l.drop k) Q (l.take k) st):AW P (.region id l.toArray true) Q st:=fun C a w hs=>by
 have hc:=ZwO hc
 obtain⟨ps,h1,h2,h3⟩:=h.out
 refine wp_region_any hm ?_
 obtain⟨S,β,hs⟩:=hs
 have hle:=hc.le
 refine ZAy (C:=C) hc (by rw[h1,Yar];omega) h2 h3 _ _ [] st a _ ?_ ?_ ?_ rfl rfl rfl ?_ (hs.drawn _)
 ·refine⟨by simp,List.nodup_nil,fun j=> ?_,fun j hj=>(by cases hj),fun i o _ hL=> ?_⟩
  ·constructor
   ·intro h;cases h
   ·intro h
    unfold LS at h
    simp only[Yan,Array.getElem?_replicate]at h
    split at h<;>cases h
  ·unfold LS at hL
   simp only[Yan,Array.getElem?_replicate]at hL
   split at hL<;>cases hL
 ·intro j hL
  unfold LS at hL
  simp only[Yan,Array.getElem?_replicate]at hL
  split at hL<;>cases hL
 ·simp
 ·intro t
  refine .inr ⟨fun i p _ _ hL=> ?_,rfl⟩
  unfold LS at hL
  simp only[Yan,Array.getElem?_replicate]at hL
  split at hL<;>cases hL
end Go.Abs
namespace Go.Abs
open Go Go.RowKit
def ZdL (b:Bool)(o:Oper):Bool:=
 o.dst.isSome&&match o.op with
  |.move _|.pick ..|.build ..|.load ..|.binOp ..|.unOp ..|.convert ..|.slice ..|.fieldAddr ..|.field ..|.indexAddr ..|.index ..|.extract ..|.nilCheck _=>true
  |.call { callee:= .value _,.. }=>true
  |.call { callee:= .builtin .len,.. }|.call { callee:= .builtin .min,.. }|.call { callee:= .builtin .max,.. }=>true
  |.assign _=>b
  |_=>false
section
variable {P:Program}{C:Ctx}{S:Nat->Prop}{β:Nat->Option BI}{st st':St}{a:Act}{w w':World}{Q:Exit->St->Prop}{ops:Array Oper}{l:List Oper}{rest:List Oper}{o:Oper}{b:Bool}
def DQ (b:Bool)(P:Program)(ops:Array Oper)(Q:Exit->St->Prop):List Oper->St->Prop
 |[],st=>AWL P ops [] Q st
 |o::rest,st=>if ZdL b o=true then ∃d v,o.dst=some d/\d<st.n/\Res P ops st o v/\DQ b P ops Q rest (st.put d v)else AWL P ops (o::rest) Q st
theorem DQ.dwl: ∀{l:List Oper} {st:St},DQ b P ops Q l st->DWL P ops (l.drop (l.takeWhile (ZdL b)).length) Q (l.take (l.takeWhile (ZdL b)).length) st
 |[],_,h=>h
 |o::rest,st,h=>by
  unfold DQ at h
  by_cases hq:ZdL b o=true
  ·rw[if_pos hq]at h
   rw[List.takeWhile_cons_of_pos hq,Yag,List.drop_succ_cons,List.take_succ_cons]
   obtain⟨d,v,h1,h2,h3,h4⟩:=h
   exact⟨d,v,h1,h2,h3,DQ.dwl h4⟩
  ·rw[if_neg hq]at h
   rw[List.takeWhile_cons_of_neg hq]
   exact h
theorem AW.drawn (b:Bool){id:Nat}(hm:P.follows .mixedOrders=true)(hc:ZkO l (l.takeWhile (ZdL b)).length=true)(h:DQ b P l.toArray Q l st):AW P (.region id l.toArray true) Q st:=
 AW.draw _ hm hc h.dwl
theorem DQ.nil (h:Q .normal st):DQ b P ops Q [] st:=AWL.nil h
theorem DQ.tail (hq:ZdL b o=false)(h:AWL P ops (o::rest) Q st):DQ b P ops Q (o::rest) st:=by
 unfold DQ;rw[hq];simpa using h
theorem DQ.step {d:Nat}{v:V}(hq:ZdL b o=true)(hg:o.guard=none)(hd:o.dst=some d)(hdn:Nat.ble (d+1) st.n=true)(h:Zdi P st o v)(k:DQ b P ops Q rest (st.put d v)):DQ b P ops Q (o::rest) st:=by
 unfold DQ;rw[if_pos hq]
 exact⟨d,v,hd,Yaa hdn,.inl ⟨hg,h⟩,k⟩
theorem DQ.op {d:Nat}{v:V}{c:Prop}(hq:ZdL b o=true)(hg:o.guard=none)(hd:o.dst=some d)(hdn:Nat.ble (d+1) st.n=true)(h:vop P st o.op=some (c,v))(hc:c)(k:DQ b P ops Q rest (st.put d v)):DQ b P ops Q (o::rest) st:=
 DQ.step hq hg hd hdn (Zdi.op h hc) k
theorem DQ.guard {d j dj:Nat}{want t:Bool}(hq:ZdL b o=true)(hg:o.guard=some (j,want))(hd:o.dst=some d)(hdn:Nat.ble (d+1) st.n=true)(hj:(ops[j]?).bind (·.dst)=some dj)(hdj:Nat.ble (dj+1) st.n=true)(ht:st.get dj= .bool t)
 (hyes:t=want-> ∃v,Zdi P st o v/\DQ b P ops Q rest (st.put d v)) (hno:t≠want->DQ b P ops Q rest (st.put d (.con undef))):DQ b P ops Q (o::rest) st:=by
 unfold DQ;rw[if_pos hq]
 by_cases htw:t=want
 ·obtain⟨v,h1,h2⟩:=hyes htw
  exact⟨d,v,hd,Yaa hdn,.inr ⟨j,want,some t,dj,hg,hj,Yaa hdj,.inl ⟨t,ht,rfl⟩,.inl ⟨by rw[htw],h1⟩⟩,h2⟩
 ·exact⟨d,.con undef,hd,Yaa hdn,.inr ⟨j,want,some t,dj,hg,hj,Yaa hdj,.inl ⟨t,ht,rfl⟩,.inr ⟨fun e=>htw (Option.some.inj e),rfl⟩⟩,hno htw⟩
theorem Zdi.assign {x:Operand}(ho:o.op= .assign x):Zdi P st o (st.ev x):=by
 intro st' hn hm hl he C a w K Q' d hd hdn ⟨S,β,hs⟩ hK
 have hx:st'.ev x=st.ev x:=he x (by rw[ho];simp[Op.operands])
 have hrun:(execOp a.eval o).run P w= .ok (.value (a.eval x)) w:=by unfold execOp;simp[ho]
 unfold Oper.wp
 rw[hrun]
 show K (a.put o.dst (a.eval x)) w
 rw[hd]
 refine hK _ _ ⟨S,β,hs.put (by rw[hn];exact hdn) ?_⟩
 rw[<- hx]
 exact Zag hs x
end
section
variable (d n:Nat)
theorem Zmx (k:IntKind)(x:Int):Zae d (n+1) (.int k x)= .int k x:=rfl
theorem Zj7 (x:Bool):Zae d (n+1) (.bool x)= .bool x:=rfl
theorem Zmy (x:List UInt8):Zae d (n+1) (.str x)= .str x:=rfl
theorem Zmz (x:Value):Zae d (n+1) (.con x)= .con x:=rfl
theorem Zj8:Zae d (n+1) .nils= .nils:=rfl
theorem Zj9 (m s:Nat)(cs:List V):Zae d (n+1) (.view m s cs)= .view m s cs:=rfl
theorem Zka (cs:List V):Zae d (n+1) (.vptr cs)= .vptr cs:=rfl
theorem Zkb (cs:List V):Zae d (n+1) (.fagg cs)= .fagg cs:=rfl
theorem ZmA (f:FuncId)(cs:List V):Zae d (n+1) (.clo f cs)= .clo f cs:=rfl
theorem ZmB:Zae d (n+1) .any= .any:=rfl
theorem ZmC (k o m s:Nat):Zae d (n+1) (.ref k o m s)= .ref ((k+1)*1000+d) o m s:=rfl
theorem ZmD (k o:Nat):Zae d (n+1) (.ptr k o)= .ptr ((k+1)*1000+d) o:=rfl
theorem ZmE (cs:List V):Zae d (n+1) (.agg cs)= .agg (cs.map (Zae d n)):=rfl
theorem ZmF (cs:List V):Zae d (n+1) (.tup cs)= .tup (cs.map (Zae d n)):=rfl
theorem ZpR (f:FuncId)(cs:List V):Zae d (n+1) (.fn f cs)= .fn f (cs.map (Zae d n)):=rfl
end
end Go.Abs
namespace Go.Abs
open Go Go.RowKit
section
variable {P:Program}{st st':St}{Q:Exit->St->Prop}{ops:Array Oper}{rest:List Oper}{o:Oper}{b:Bool}
theorem DQ.guard2 {d j dj:Nat}{want t:Bool}(hq:ZdL b o=true)(hg:o.guard=some (j,want))(hd:o.dst=some d)(hdn:Nat.ble (d+1) st.n=true)(hj:(ops[j]?).bind (·.dst)=some dj)(hdj:Nat.ble (dj+1) st.n=true)(ht:st.get dj= .bool t)
 (hyes:t=want-> ∃v,Zdi P st o v/\DQ b P ops Q rest (st.put d v)) (hno:t= !want->DQ b P ops Q rest (st.put d (.con undef))):DQ b P ops Q (o::rest) st:=
 DQ.guard hq hg hd hdn hj hdj ht hyes fun h=>hno (by cases t<;>cases want<;>simp_all)
theorem DQ.yes {d:Nat}{v:V}{c:Prop}(h:vop P st o.op=some (c,v))(hc:c)(k:DQ b P ops Q rest (st.put d v)): ∃v,Zdi P st o v/\DQ b P ops Q rest (st.put d v):=⟨v,Zdi.op h hc,k⟩
theorem AWL.guard2 {j d e:Nat}{want t:Bool}(hg:o.guard=some (j,want))(hj:(ops[j]?).bind (·.dst)=some d)(hd:Nat.ble (d+1) st.n=true)(ht:st.get d= .bool t)(he:o.dst=some e)(hen:Nat.ble (e+1) st.n=true)
 (hyes:t=want->AWL P ops ({ o with guard:=none }::rest) Q st) (hno:t= !want->AWL P ops rest Q (st.put e (.con undef))):AWL P ops (o::rest) Q st:=
 AWL.guard hg hj (Yaa hd) ht hyes (fun h=>by rw[he];exact hno (by cases t<;>cases want<;>simp_all)) (fun e' h=>by rw[he]at h;cases h;exact Yaa hen)
end
end Go.Abs
namespace Go.Abs
open Go Go.RowKit
theorem Zs5 (k:IntKind)(m n:Nat)(l:List Int):List.take m (List.drop n (Zi k l))=Zi k (List.take m (List.drop n l)):=by
 simp[Zi,List.map_take,List.map_drop]
theorem ZpS (k:IntKind)(m:Nat)(l:List Int):List.take m (Zi k l)=Zi k (List.take m l):=by
 simp[Zi,List.map_take]
section
variable (k:IntKind)(a b c d e f g h:Int)(i1 i2 i3 i4 i5 i6 i7 i8:Nat)(l:List (Nat×V))
theorem fp0:Zcz []=[]:=rfl
theorem fp1:Zcz [(i1,V.int k a)]=Zi k [a]:=rfl
theorem fp2:Zcz [(i1,V.int k a),(i2,V.int k b)]=Zi k [a,b]:=rfl
theorem fp3:Zcz [(i1,V.int k a),(i2,V.int k b),(i3,V.int k c)]=Zi k [a,b,c]:=rfl
theorem fp4:Zcz [(i1,V.int k a),(i2,V.int k b),(i3,V.int k c),(i4,V.int k d)]=Zi k [a,b,c,d]:=rfl
theorem fp5:Zcz [(i1,V.int k a),(i2,V.int k b),(i3,V.int k c),(i4,V.int k d),(i5,V.int k e)]=Zi k [a,b,c,d,e]:=rfl
theorem fp6:Zcz [(i1,V.int k a),(i2,V.int k b),(i3,V.int k c),(i4,V.int k d),(i5,V.int k e),(i6,V.int k f)]=Zi k [a,b,c,d,e,f]:=rfl
theorem fp7:Zcz [(i1,V.int k a),(i2,V.int k b),(i3,V.int k c),(i4,V.int k d),(i5,V.int k e),(i6,V.int k f),(i7,V.int k g)]=Zi k [a,b,c,d,e,f,g]:=rfl
theorem fp8:Zcz [(i1,V.int k a),(i2,V.int k b),(i3,V.int k c),(i4,V.int k d),(i5,V.int k e),(i6,V.int k f),(i7,V.int k g),(i8,V.int k h)]=Zi k [a,b,c,d,e,f,g,h]:=rfl
theorem Zzs (cs:List V):Zcz ((i1,.agg cs)::l)=cs++Zcz l:=rfl
theorem Zs6 (cs:List V):Zcz ((i1,.fagg cs)::l)=cs++Zcz l:=rfl
theorem Zzt (s:List UInt8):Zcz ((i1,.str s)::l)= .str s::Zcz l:=rfl
theorem Zs7 (s:Bool):Zcz ((i1,.bool s)::l)= .bool s::Zcz l:=rfl
theorem Zs8:Zcz ((i1,.nils)::l)= .nils::Zcz l:=rfl
theorem Zs9 (n s:Nat)(cs:List V):Zcz ((i1,.view n s cs)::l)= .view n s cs::Zcz l:=rfl
theorem Zzu (l:List Value):Zaj (.agg l.toArray)=l.map Zbu:=by simp[Zaj,Value.cells]
end
theorem ZpT {α:Type}(l:List α):List.take l.length l=l:=Yau
theorem ZmG {α:Type}(l m:List α)(n:Nat):List.take (l.length+n) (l++m)=l++List.take n m:=List.take_length_add_append n
end Go.Abs
namespace Go.Abs
open Go Go.RowKit
def Zzv (st:St):V->Option Nat
 |.ref k _ _ _=>match st.obj k with
  |some o=>bif o.flat&& !ZcX st.lent k then some k else none
  |none=>none
 |_=>none
def Zzw (st:St):List V->Option Nat
 |[]=>none
 |v::l=>match (match v with|.agg cs=>cs.findSome? (Zzv st)|v=>Zzv st v)with
  |some k=>some k
  |none=>Zzw st l
section
variable {P:Program}{st st':St}{Q:Exit->St->Prop}{ops:Array Oper}{rest:List Oper}{o:Oper}{b:Bool}
theorem AWL.frz {l:List Oper}(k:Nat)(h:AWL P ops l Q (st.freeze k)):AWL P ops l Q st:=fun C a w ⟨S,β,hs⟩=>by
 obtain⟨S',h'⟩:=hs.frzV (.ref k 0 0 0)
 exact h C a w ⟨S',β,h'⟩
theorem AW.frz {c:Code}(k:Nat)(h:AW P c Q (st.freeze k)):AW P c Q st:=fun C a w ⟨S,β,hs⟩=>by
 obtain⟨S',h'⟩:=hs.frzV (.ref k 0 0 0)
 exact h C a w ⟨S',β,h'⟩
end
end Go.Abs
namespace Go.Abs
open Go Go.RowKit
theorem Zkc (cs:List V):ZaA (.agg cs)=cs:=rfl
theorem ZiU (cs:List V):ZaA (.fagg cs)=cs:=rfl
end Go.Abs
namespace Go.Abs
open Go Go.RowKit
def ZlU (k:Nat)(cs:List V)(r:V):V:=(r.frz k cs 4).wipe k 4
theorem Out.frz {S:Nat->Prop}{w w':World}{r:V}{k:Nat}{cs:List V}{m:List (Nat×List V)}{u:Value}(h:Out S w w' r ((k,cs)::m) u):Out S w w' (ZlU k cs r) m u:=by
 obtain⟨⟨S',β',h1,h2,h3,h4,h5,h6,h7,h8⟩,hfr⟩:=h
 have hkm: ∀cs',(k,cs')∉m:=fun cs' hm=>by
  simp only[List.map_cons,List.nodup_cons,Ya3]at h8
  exact h8.1 ⟨_,hm,rfl⟩
 have hor:=h4 k cs (by simp)
 let S2:Nat->Prop:=fun b=>S' b\/ ∃bi,β' k=some bi/\b=bi.blk
 let β2:Nat->Option BI:=fun j=>if j=k then none else β' j
 have hβ: ∀j,j≠k->β2 j=β' j:=fun j hj=>if_neg hj
 have hS: ∀b,S' b->S2 b:=fun b hb=> .inl hb
 have hblk: ∀bi,β' k=some bi->bi.blk<w'.heap.size:=fun bi hbi=>by
  rcases hor with⟨_,_,h⟩|⟨bi',cur,e,fz,hbi',ho⟩
  ·rw[h]at hbi;cases hbi
  ·have e:bi'=bi:=by rw[hbi']at hbi;exact Option.some.inj hbi
   subst e
   have:=ho.heap
   by_cases hlt:bi'.blk<w'.heap.size
   ·exact hlt
   ·rw[Array.getElem?_eq_none (by omega)]at this;cases this
 refine⟨⟨S2,β2,fun b hb=> .inl (h1 b hb),?_,?_,?_,?_,?_,?_,?_⟩,hfr⟩
 ·rintro b (hb|⟨bi,hbi,rfl⟩)
  ·exact h2 b hb
  ·exact .inr ⟨(h5 k cs bi (by simp) hbi).1,hblk bi hbi⟩
 ·exact VR.wipe hβ 4 (VR.frz (o:=⟨true,cs⟩) hor rfl hS (fun bi hbi=> .inr ⟨bi,hbi,rfl⟩) 4 h3)
 ·intro k' cs' hm
  have hne:k'≠k:=fun e=>by subst e;exact hkm cs' hm
  rcases h4 k' cs' (by simp[hm])with h|⟨bi,cur,e,fz,hbi,ho⟩
  ·exact .inl ⟨h.1,h.2.1,by rw[hβ k' hne];exact h.2.2⟩
  ·refine .inr ⟨bi,cur,e,fz,by rw[hβ k' hne];exact hbi,ho.heap,ho.size,ho.free,ho.fits,ho.len,?_⟩
   intro j v hj
   obtain⟨u,hu,hu1,hr⟩:=ho.cells j v hj
   refine⟨u,hu,hu1,?_⟩
   rw[if_pos rfl]at hr ⊢
   exact⟨hr.1,hr.2.step hS (fun _ _=>rfl)⟩
 ·intro k' cs' bi hm hbi
  have hne:k'≠k:=fun e=>by subst e;exact hkm cs' hm
  rw[hβ k' hne]at hbi
  have h:=h5 k' cs' bi (by simp[hm]) hbi
  refine⟨h.1,?_⟩
  rintro(hb|⟨bi',hbi',hb⟩)
  ·exact h.2 hb
  ·exact hne (h6 k' k cs' cs bi bi' (by simp[hm]) (by simp) hbi hbi' hb)
 ·intro k1 k2 cs1 cs2 bi1 bi2 hm1 hm2 hb1 hb2 he
  have hne1:k1≠k:=fun e=>by subst e;exact hkm cs1 hm1
  have hne2:k2≠k:=fun e=>by subst e;exact hkm cs2 hm2
  rw[hβ k1 hne1]at hb1
  rw[hβ k2 hne2]at hb2
  exact h6 k1 k2 cs1 cs2 bi1 bi2 (by simp[hm1]) (by simp[hm2]) hb1 hb2 he
 ·intro j hj
  by_cases hjk:j=k
  ·subst hjk;exact if_pos rfl
  ·rw[hβ j hjk]
   refine h7 j fun cs' hm=> ?_
   rcases Yav.1 hm with h|h
   ·cases h;exact hjk rfl
   ·exact hj cs' h
 ·simp only[List.map_cons,List.nodup_cons]at h8
  exact h8.2
theorem AC.frzF {P:Program}{f:FuncId}{args:List V}{r0:V}{k:Nat}{cs:List V}{m0:List (Nat×List V)}(h:AC P f args (fun r m=>r=r0/\m=(k,cs)::m0)) :
 AC P f args (fun r m=>r=ZlU k cs r0/\m=m0):=fun S w us h1 h2 h3=>
 (h S w us h1 h2 h3).mono fun _ _ ⟨_,_,u,⟨hr,hm⟩,e,o⟩=>⟨_,_,u,⟨rfl,rfl⟩,e,by subst hr;subst hm;exact o.frz⟩
theorem AC.look {P:Program}{f:FuncId}{args:List V}{k n s:Nat}{cs:List V}(h:AC P f args (fun r m=>r= .ref k 0 n s/\m=[(k,cs)]))(hn:cs.length=n*s) :
 AC P f args (fun r m=>r= .view n s cs/\m=[]):=by
 have e:ZlU k cs (.ref k 0 n s)= .view n s cs:=by
  simp only[ZlU,V.frz,V.wipe,Ya4,cond_true,List.drop_zero,Yad (Nat.le_of_eq hn)]
 have:=h.frzF
 rw[e]at this
 exact this
end Go.Abs
namespace Go.Abs
open Go Go.RowKit
def St.flatten (st:St)(k:Nat):St:=
 match st.obj k with
 |some o=>bif o.cs.all ZbJ&&o.cs.all V.cell1 then st.setObj k ⟨true,o.cs⟩else st
 |none=>st
section
variable {P:Program}{C:Ctx}{S:Nat->Prop}{β:Nat->Option BI}{st st':St}{a:Act}{w w':World}{Q:Exit->St->Prop}{ops:Array Oper}{rest:List Oper}{o:Oper}{b:Bool}
theorem SR.flatten (h:SR C S β st a w)(k:Nat):SR C S β (st.flatten k) a w:=by
 unfold St.flatten
 split
 ·rename_i o ho
  cases hb:o.cs.all ZbJ&&o.cs.all V.cell1 with
  |false=>exact h
  |true=>
   rw[cond_true]
   simp only[Yao,Yat]at hb
   have hsome: ∀j,((st.setObj k ⟨true,o.cs⟩).obj j).isSome=(st.obj j).isSome:=by
     intro j
     rw[St.obj_setObj]
     by_cases hj:j=k
     ·subst hj;rw[if_pos rfl,ho];rfl
     ·rw[if_neg hj]
   refine{ tsize:=h.tsize,slots:=h.slots,defers:=h.defers,objs:= ?_,inj:= ?_,own:= ?_,pins:=h.pins,sub:=h.sub,snew:=h.snew,slt:=h.slt,frame:=h.frame }
   ·intro j o' ho'
    rw[St.obj_setObj]at ho'
    by_cases hj:j=k
    ·subst hj
     rw[if_pos rfl]at ho'
     cases ho'
     rcases h.objs j o ho with⟨h1,h2,h3⟩|⟨bi,cur,e,fz,hbi,hor⟩
     ·exact .inl ⟨rfl,h2,h3⟩
     ·refine .inr ⟨bi,cur,e,fz,hbi,hor.heap,hor.size,hor.free,hor.fits,hor.len,?_⟩
      intro i v hv
      obtain⟨u,hu,hu1,hr⟩:=hor.cells i v hv
      refine⟨u,hu,hu1,?_⟩
      rw[if_pos rfl]
      refine⟨hb.2 v (Ya0 hv),?_⟩
      split at hr
      ·exact hr.2
      ·exact ZgD (hb.1 v (Ya0 hv)) hr
    ·rw[if_neg hj]at ho'
     exact h.objs j o' ho'
   ·intro j j' bi bi' h1 h2
    rw[hsome]at h1 h2
    exact h.inj j j' bi bi' h1 h2
   ·intro j bi h1
    rw[hsome]at h1
    exact h.own j bi h1
 ·exact h
theorem AWL.flat {l:List Oper}(k:Nat)(h:AWL P ops l Q (st.flatten k)):AWL P ops l Q st:=fun C a w ⟨S,β,hs⟩=>h C a w ⟨S,β,hs.flatten k⟩
theorem AW.flat {c:Code}(k:Nat)(h:AW P c Q (st.flatten k)):AW P c Q st:=fun C a w ⟨S,β,hs⟩=>h C a w ⟨S,β,hs.flatten k⟩
theorem ZmH {f:FuncId}{x:Operand}{args:Array Operand}{argTypes:Array TypeId}{fs us:Array Value}(ho:o.op= .call { callee:= .value x,args,argTypes })(hx:a.eval x= .func (.func f) fs us)(hf:Za P f=true) :
 (execOp a.eval o).run P w= .ok (.enter f (fs++args.map a.eval++us)) w:=by
 unfold Za at hf
 split at hf<;>first|(cases hf;done)|skip
 rename_i fn hfn
 simp only[Yao,bne_iff_ne,ne_eq]at hf
 have h2: ¬fn.body=none:=by intro e;rw[e]at hf;simp at hf
 unfold execOp
 simp[ho,resolve,Deferred.ofValue,hx,invoke,callFunc,hfn,hf.1,h2]
end
theorem Zta (n s:Nat)(cs:List V):vn (.view n s cs)=n:=rfl
theorem ZpU (n s:Nat)(cs:List V):vcs (.view n s cs)=cs:=rfl
theorem Zzx (k:IntKind)(n:Int):vi (.int k n)=n:=rfl
theorem Ztb (b:Bool):vb (.bool b)=b:=rfl
theorem Ztc (b:List UInt8):vst (.str b)=b:=rfl
theorem Zkd (k:IntKind)(n:Int):ZaA (.int k n)=[.int k n]:=rfl
theorem ZiV (b:Bool):ZaA (.bool b)=[.bool b]:=rfl
theorem Zke (b:List UInt8):ZaA (.str b)=[.str b]:=rfl
theorem ZiW (n s:Nat)(cs:List V):ZaA (.view n s cs)=[.view n s cs]:=rfl
theorem ZiX:ZaA .nils=[.nils]:=rfl
theorem Zkf (k o n s:Nat):ZaA (.ref k o n s)=[.ref k o n s]:=rfl
theorem Zkg (k o:Nat):ZaA (.ptr k o)=[.ptr k o]:=rfl
theorem ZiY (cs:List V):ZaA (.vptr cs)=[.vptr cs]:=rfl
theorem Zkh (v:Value):ZaA (.con v)=[.con v]:=rfl
theorem ZmI (f:FuncId)(cs:List V):ZaA (.fn f cs)=[.fn f cs]:=rfl
theorem Zki (f:FuncId)(cs:List V):ZaA (.clo f cs)=[.clo f cs]:=rfl
end Go.Abs
namespace Go.Abs
open Go Go.RowKit
def V.rk (σ:Nat->Option Nat):Nat->V->V
 |0,_=> .any
 |d+1,v=>match v with
  |.ref k o n s=>match σ k with|some j=> .ref j o n s|none=> .any
  |.ptr k o=>match σ k with|some j=> .ptr j o|none=> .any
  |.agg cs=> .agg (cs.map (V.rk σ d))
  |.tup vs=> .tup (vs.map (V.rk σ d))
  |.fn f cap=> .fn f (cap.map (V.rk σ d))
  |v=>v
def ZaK.rk (σ:Nat->Option Nat)(o:ZaK):ZaK:=bif o.flat then o else{ o with cs:=o.cs.map (V.rk σ 3) }
theorem VR.rk {S:Nat->Prop}{w:World}{β β':Nat->Option BI}{σ:Nat->Option Nat}(hβ: ∀k j,σ k=some j->β k=none\/β' j=β k): ∀(d:Nat) {v:V} {u:Value},VR S w β v u->VR S w β' (v.rk σ d) u:=by
 intro d
 induction d with
 |zero=>intro v u _;exact .any u
 |succ d ih=>
  intro v u h
  have hlist: ∀{cs:List V} {us:Array Value},(∀(j:Nat) (v:V) (u:Value),cs[j]? = some v->us[j]? = some u->VR S w β v u)-> ∀(j:Nat) (v:V) (u:Value),(cs.map (V.rk σ d))[j]? = some v->us[j]? = some u->VR S w β' v u:=by
    intro cs us hr j v u hv hu
    simp only[Yas,Yaj]at hv
    obtain⟨v0,hv0,rfl⟩:=hv
    exact ih (hr j v0 u hv0 hu)
  cases h with
  |flat h=>
   cases h with
   |fn f=>exact .flat (.fn f)
   |_=>refine .flat ?_;first|exact .int _ _|exact .bool _|exact .str _|exact .con _|exact .nils _|(apply FR.view<;>assumption)|(apply FR.vptr<;>assumption)|(apply FR.fagg<;>assumption)|(apply FR.clo<;>assumption)|(apply FR.mclo<;>assumption)
  |any u=>exact .any u
  |ref k off n sz A c h=>
   simp only[V.rk]
   cases hk:σ k with
   |none=>exact .any _
   |some j=>
    refine .ref j off n sz A c ?_
    rcases h with h|⟨bi,hbi,hrest⟩
    ·exact .inl h
    ·rcases hβ k j hk with h0|h0
     ·rw[h0]at hbi;cases hbi
     ·exact .inr ⟨bi,by rw[h0];exact hbi,hrest⟩
  |ptr k off bi hbi=>
   simp only[V.rk]
   cases hk:σ k with
   |none=>exact .any _
   |some j=>
    rcases hβ k j hk with h0|h0
    ·rw[h0]at hbi;cases hbi
    ·exact .ptr j off bi (by rw[h0];exact hbi)
  |agg cs us hl hr=>exact .agg _ us (by simpa using hl) (hlist hr)
  |tup vs us hl hr=>exact .tup _ us (by simpa using hl) (hlist hr)
  |fn f cap us hl hr=>exact .fn f _ us (by simpa using hl) (hlist hr)
  |mfn f cap us hl hr=>exact .mfn f _ us (by simpa using hl) (hlist hr)
theorem OR.rk {S:Nat->Prop}{w:World}{β β':Nat->Option BI}{σ:Nat->Option Nat}(hβ: ∀k j,σ k=some j->β k=none\/β' j=β k){k j:Nat}{o:ZaK}(h:OR S w β k o)(hk:β' j=β k):OR S w β' j (o.rk σ):=by
 rcases h with⟨h1,h2,h3⟩|⟨bi,cur,e,fz,hbi,hr⟩
 ·exact .inl ⟨by simp[ZaK.rk,h1],by simp[ZaK.rk,h1,h2],hk.trans h3⟩
 ·refine .inr ⟨bi,cur,e,fz,hk.trans hbi,?_⟩
  cases hf:o.flat with
  |true=>
   have e1:o.rk σ=o:=by simp[ZaK.rk,hf]
   rw[e1]
   refine⟨hr.heap,hr.size,hr.free,hr.fits,hr.len,fun i v hv=> ?_⟩
   obtain⟨u,hu,h1,hr'⟩:=hr.cells i v hv
   exact⟨u,hu,h1,by rw[if_pos hf]at hr' ⊢;exact hr'⟩
  |false=>
   have e1:o.rk σ={ o with cs:=o.cs.map (V.rk σ 3) }:=by simp[ZaK.rk,hf]
   rw[e1]
   refine⟨hr.heap,hr.size,hr.free,by simpa using hr.fits,by simpa using hr.len,fun i v hv=> ?_⟩
   simp only[Yas,Yaj]at hv
   obtain⟨v0,hv0,rfl⟩:=hv
   obtain⟨u,hu,h1,hr'⟩:=hr.cells i v0 hv0
   rw[if_neg (by simp[hf])]at hr'
   exact⟨u,hu,h1,by rw[if_neg (by simp[hf])];exact VR.rk hβ 3 hr'⟩
abbrev Mem:=List (Nat×ZaK)
structure ZwB (S:Nat->Prop)(w w':World)(β:Nat->Option BI)(lent keep:List Nat)(r:V)(mem:Mem)(u:Value):Prop where
 ex: ∃(S':Nat->Prop) (β':Nat->Option BI),(∀b,S b->S' b)/\(∀b,S' b->S b\/(w.heap.size<=b/\b<w'.heap.size))/\VR S' w' β' r u/\
  (∀k o,(k,o)∈mem->OR S' w' β' k o)/\
  (∀k o bi,(k,o)∈mem->β' k=some bi-> ¬S' bi.blk/\(w.heap.size<=bi.blk\/ ∃k0∈lent,∃b0,β k0=some b0/\bi.blk=b0.blk))/\
  (∀k k' o o' bi bi',(k,o)∈mem->(k',o')∈mem->β' k=some bi->β' k'=some bi'->bi.blk=bi'.blk->k=k')/\
  (∀k,(∀o,(k,o)∉mem)->β' k=none)/\(mem.map (·.1)).Nodup/\(∀k∈keep,(∃o,(k,o)∈mem)/\β' k=β k)
 frame:ZhV (fun b=> ∃k0∈lent,∃b0,β k0=some b0/\b=b0.blk) w w'
def AM (P:Program)(f:FuncId)(args:List V)(mem:Mem)(keep:List Nat)(R:V->Mem->Prop):Prop:=
 ∀(S:Nat->Prop) (w:World) (β:Nat->Option BI) (us:List Value),Sok S w->args.length=us.length->(∀(j:Nat) (v:V) (u:Value),args[j]? = some v->us[j]? = some u->VR S w β v u)->
  (∀k o,(k,o)∈mem->OR S w β k o)->(∀k o bi,(k,o)∈mem->β k=some bi-> ¬S bi.blk)->
  (∀k k' o o' bi bi',(k,o)∈mem->(k',o')∈mem->β k=some bi->β k'=some bi'->bi.blk=bi'.blk->k=k')->
  (mem.map (·.1)).Nodup->(∀k∈keep,∃bi,β k=some bi)->
  Calls P f us.toArray w (fun e w'=> ∃r m u,R r m/\e= .returned u/\ZwB S w w' β (mem.map (·.1)) keep r m u)
def Zcv (pn:Nat->Option BI)(keep:List Nat):Mem->List (Nat×Option BI)
 |[]=>[]
 |p::l=>(p.1,bif keep.contains p.1 then pn p.1 else none)::Zcv pn keep l
def Zn3 (n:Nat)(args:List V)(mem:Mem)(lent:List (Nat×Option BI)):St:={ n:=n,slots:=ZcH 0 args,mem:=mem,lent:=lent }
def ZfW:Nat->V->Option (List Nat)
 |0,_=>none
 |n+1,v=>match v with
  |.ref k _ _ _=>some [k]
  |.ptr k _=>some [k]
  |.agg cs=>cs.foldr (fun v acc=>match ZfW n v,acc with|some a,some b=>some (a++b)|_,_=>none) (some [])
  |.tup cs=>cs.foldr (fun v acc=>match ZfW n v,acc with|some a,some b=>some (a++b)|_,_=>none) (some [])
  |.fn _ []=>some []
  |.fn _ _=>none
  |_=>some []
def Ztd (n:Nat):List V->Option (List Nat)
 |[]=>some []
 |v::l=>match ZfW n v,Ztd n l with
  |some a,some b=>some (a++b)
  |_,_=>none
def Zid (st:St):List Nat->Option Mem
 |[]=>some []
 |k::ks=>match st.obj k,Zid st ks with
  |some o,some l=>some ((k,o)::l)
  |_,_=>none
def ZmJ (ks:List Nat):Mem->Bool
 |[]=>true
 |p::l=>(p.2.flat||match Ztd 3 p.2.cs with|some js=>js.all ks.contains|none=>false)&&ZmJ ks l
def ZjX (P:Program)(rs:List ResultVar)(keep:List Nat)(pn:Nat->Option BI)(R:V->Mem->Prop):Exit->St->Prop:=fun e st=>
 (e= .ret\/e= .normal)/\ ∃c r ks js m,ZCa P st rs=some (c,r)/\c/\ZfW 4 r=some js/\Zid st ks=some m/\(js.all ks.contains&&ZmJ ks m&&decide ks.Nodup&&keep.all ks.contains)=true/\(∀k∈keep,lk st.lent k=some (pn k))/\R r m
section
variable {P:Program}{C:Ctx}{S:Nat->Prop}{β:Nat->Option BI}{st st':St}{a:Act}{w w':World}{Q:Exit->St->Prop}{ops:Array Oper}{rest:List Oper}{o:Oper}
theorem Zht {n:Nat}: ∀{cs:List V} {ks:List Nat},cs.foldr (fun v acc=>match ZfW n v,acc with|some a,some b=>some (a++b)|_,_=>none) (some [])=some ks-> ∀v∈cs,∃kv,ZfW n v=some kv/\ ∀k∈kv,k∈ks
 |[],_,_,v,hv=>by cases hv
 |c::cs,ks,h,v,hv=>by
  rw[List.foldr_cons]at h
  split at h<;>first|(cases h;done)|skip
  rename_i x y hx hy
  injection h with h
  subst h
  rcases Yav.1 hv with rfl|hv
  ·exact⟨x,hx,fun k hk=>List.mem_append.2 (.inl hk)⟩
  ·obtain⟨kv,h1,h2⟩:=Zht hy v hv
   exact⟨kv,h1,fun k hk=>List.mem_append.2 (.inr (h2 k hk))⟩
theorem Zhu {n:Nat}: ∀{cs:List V} {ks:List Nat},Ztd n cs=some ks-> ∀v∈cs,∃kv,ZfW n v=some kv/\ ∀k∈kv,k∈ks
 |[],_,_,v,hv=>by cases hv
 |c::cs,ks,h,v,hv=>by
  simp only[Ztd]at h
  split at h<;>first|(cases h;done)|skip
  rename_i x y hx hy
  injection h with h
  subst h
  rcases Yav.1 hv with rfl|hv
  ·exact⟨x,hx,fun k hk=>List.mem_append.2 (.inl hk)⟩
  ·obtain⟨kv,h1,h2⟩:=Zhu hy v hv
   exact⟨kv,h1,fun k hk=>List.mem_append.2 (.inr (h2 k hk))⟩
theorem VR.restrictA {β':Nat->Option BI}: ∀(n:Nat) {v:V} {u:Value} {ks:List Nat},ZfW n v=some ks->(∀k∈ks,β' k=β k)->VR S w β v u->VR S w β' v u:=by
 intro n
 induction n with
 |zero=>intro v u ks h;simp[ZfW]at h
 |succ n ih=>
  intro v u ks h hk hv
  cases hv with
  |flat h=>exact .flat h
  |any u=>exact .any u
  |ref k off m sz A c hh=>
   simp only[ZfW,Yac]at h
   subst h
   refine .ref k off m sz A c ?_
   rw[hk k (by simp)];exact hh
  |ptr k off bi hbi=>
   simp only[ZfW,Yac]at h
   subst h
   exact .ptr k off bi (by rw[hk k (by simp)];exact hbi)
  |agg cs us hl hr=>
   simp only[ZfW]at h
   refine .agg cs us hl fun j v u hj hu=> ?_
   obtain⟨kv,h1,h2⟩:=Zht h v (Ya0 hj)
   exact ih h1 (fun k hkk=>hk k (h2 k hkk)) (hr j v u hj hu)
  |tup cs us hl hr=>
   simp only[ZfW]at h
   refine .tup cs us hl fun j v u hj hu=> ?_
   obtain⟨kv,h1,h2⟩:=Zht h v (Ya0 hj)
   exact ih h1 (fun k hkk=>hk k (h2 k hkk)) (hr j v u hj hu)
  |fn f cap us hl hr=>
   cases cap with
   |nil=>exact .fn f [] us hl (fun j v u hj=>by simp at hj)
   |cons=>simp[ZfW]at h
  |mfn f cap us hl hr=>
   cases cap with
   |nil=>exact .mfn f [] us hl (fun j v u hj=>by simp at hj)
   |cons=>simp[ZfW]at h
theorem ZiZ: ∀{ks:List Nat} {m:Mem},Zid st ks=some m->(∀k o,(k,o)∈m->st.obj k=some o)/\m.map (·.1)=ks
 |[],m,h=>by
  simp only[Zid,Yac]at h
  subst h
  exact⟨fun k o hk=>(by cases hk),rfl⟩
 |k::ks,m,h=>by
  simp only[Zid]at h
  split at h<;>first|(cases h;done)|skip
  rename_i o l ho hl
  injection h with h
  subst h
  obtain⟨h1,h2⟩:=ZiZ hl
  refine⟨fun k' o' hk=> ?_,by rw[List.map_cons,h2]⟩
  rcases Yav.1 hk with e|hk
  ·cases e;exact ho
  ·exact h1 k' o' hk
theorem Zi0 {ks:List Nat}: ∀{m:Mem},ZmJ ks m=true-> ∀k o,(k,o)∈m->o.flat=true\/ ∃js,Ztd 3 o.cs=some js/\ ∀j∈js,j∈ks
 |[],_,k,o,h=>by cases h
 |p::l,h,k,o,hk=>by
  simp only[ZmJ,Yao,Bool.or_eq_true]at h
  rcases Yav.1 hk with e|hk
  ·subst e
   rcases h.1 with h1|h1
   ·exact .inl h1
   ·right
    split at h1
    ·rename_i js hjs
     refine⟨js,hjs,fun j hj=> ?_⟩
     rw[Yat]at h1
     exact List.contains_iff_mem.1 (h1 j hj)
    ·cases h1
  ·exact Zi0 h.2 k o hk
theorem ZgM {pn:Nat->Option BI}{keep:List Nat}: ∀{mem:Mem} {k:Nat} {bi:BI},(k,some bi)∈Zcv pn keep mem->pn k=some bi
 |[],_,_,h=>by cases h
 |p::l,k,bi,h=>by
  simp only[Zcv,Yav,Yai]at h
  rcases h with⟨rfl,h⟩|h
  ·cases hc:keep.contains p.1 with
   |true=>rw[hc]at h;exact h.symm
   |false=>rw[hc]at h;cases h
  ·exact ZgM h
theorem Zeq {pn:Nat->Option BI}{keep:List Nat}: ∀{mem:Mem} {k:Nat} {o:ZaK},(k,o)∈mem->ZcX (Zcv pn keep mem) k=true
 |[],_,_,h=>by cases h
 |p::l,k,o,h=>by
  simp only[Zcv,ZcX,Bool.or_eq_true,beq_iff_eq]
  rcases Yav.1 h with e|h
  ·subst e;exact .inl rfl
  ·exact .inr (Zeq h)
theorem Zau {α:Type}: ∀{l:List (Nat×α)} {k:Nat} {x:α},lk l k=some x->(k,x)∈l
 |[],_,_,h=>by simp[lk]at h
 |p::l,k,x,h=>by
  simp only[lk]at h
  by_cases e:p.1=k
  ·subst e;simp at h;subst h;simp
  ·rw[show(p.1==k)=false from by simpa using e]at h
   exact Yaq _ (Zau h)
theorem Zzy {α:Type}: ∀{l:List (Nat×α)} {k:Nat} {x:α},(l.map (·.1)).Nodup->(k,x)∈l->lk l k=some x
 |[],_,_,_,h=>by cases h
 |p::l,k,x,hn,h=>by
  simp only[List.map_cons,List.nodup_cons]at hn
  simp only[lk]
  rcases Yav.1 h with e|h
  ·subst e;simp
  ·have:p.1≠k:=fun e=>hn.1 (Ya3.2 ⟨_,h,e.symm⟩)
   rw[show(p.1==k)=false from by simpa using this]
   exact Zzy hn.2 h
theorem AM.enter {f:FuncId}{fn:Func}{c:Code}{args:List V}{mem:Mem}{keep:List Nat}{R:V->Mem->Prop}(hf:P.funcs[f]? = some fn)(hb:fn.body=some c)(hn:args.length<=fn.ntmps)
 (h: ∀pn:Nat->Option BI,AW P c (ZjX P fn.results.toList keep pn R) (Zn3 fn.ntmps args mem (Zcv pn keep mem))):AM P f args mem keep R:=by
 intro S w β us hS hl hargs hor hns hinj hnd hkeep
 refine calls_of_wp hf hb ?_
 let L:Nat->Prop:=fun b=> ∃k0∈mem.map (·.1),∃b0,β k0=some b0/\b=b0.blk
 let C:Ctx:=⟨S,w,L,hS,fun b hb ⟨k0,hk0,b0,hb0,e⟩=>by
  obtain⟨p,hp,e1⟩:=Ya3.1 hk0
  subst e1
  exact hns p.1 p.2 b0 hp hb0 (e▸hb),[]⟩
 have hinit:SR C S β (Zn3 fn.ntmps args mem (Zcv β keep mem)) { tmps:=us.toArray++Array.replicate (fn.ntmps-us.toArray.size) undef,defers:=[] } w:={
  tsize:=by simp[Zn3];omega
  slots:=fun i=>by
   simp only[St.get,Zn3,Zb4,Nat.zero_le,if_true,Nat.sub_zero]
   cases hi:args[i]? with
   |none=>exact .any _
   |some v=>
    have hlt:i<us.length:=by rw[<- hl];exact(Yak.1 hi).1
    have hu:us[i]? = some us[i]:=Yab hlt
    have:(us.toArray++Array.replicate (fn.ntmps-us.toArray.size) undef).getD i undef=us[i]:=by
      rw[Yan,Array.getElem?_append_left (by simpa using hlt)]
      simp[hlt]
    rw[this]
    exact hargs i v _ hi hu
  defers:=rfl
  objs:=fun k o ho=>hor k o (Zau ho)
  inj:=fun k k' bi bi' hk hk' hb hb' e=>by
   obtain⟨o,ho⟩:=Yax.1 hk
   obtain⟨o',ho'⟩:=Yax.1 hk'
   exact hinj k k' o o' bi bi' (Zau ho) (Zau ho') hb hb' e
  own:=fun k bi hk hb=>by
   obtain⟨o,ho⟩:=Yax.1 hk
   exact⟨hns k o bi (Zau ho) hb,.inr ⟨⟨k,Ya3.2 ⟨_,Zau ho,rfl⟩,bi,hb,rfl⟩,Zeq (Zau ho)⟩⟩
  pins:=fun k bi hk=>ZgM hk
  sub:=fun b hb=>hb
  snew:=fun b hb=> .inl hb
  slt:=hS.1
  frame:=⟨rfl,rfl,rfl,Nat.le_refl _,fun _ _ _=>rfl⟩ }
 refine wp_mono (h β C _ w ⟨S,_,hinit⟩) fun e a' w' ⟨st',⟨he,cc,r,ks,js,m,hres,hcc,hjs,hout,hchk,hpin,hR⟩,S',β',hs⟩=> ?_
 obtain⟨u,hrun,hv⟩:=Zd0 hs hres hcc
 obtain⟨m1,m2⟩:=ZiZ hout
 simp only[Yao,Yaz,Yat]at hchk
 obtain⟨⟨⟨hj1,hsh⟩,hndk⟩,hkk⟩:=hchk
 have hin: ∀k o,(k,o)∈m->k∈ks:=fun k o hk=>by rw[<- m2];exact Ya3.2 ⟨_,hk,rfl⟩
 let βo:Nat->Option BI:=fun k=>if k∈ks then β' k else none
 have hβo: ∀k∈ks,βo k=β' k:=fun k hk=>if_pos hk
 have hOut:ZwB S w w' β (mem.map (·.1)) keep r m u:=by
  refine⟨⟨S',βo,hs.sub,fun b hb=> ?_,?_,?_,?_,?_,?_,by rw[m2];exact hndk,?_⟩,hs.frame⟩
  ·rcases hs.snew b hb with h1|h1
   ·exact .inl h1
   ·exact .inr ⟨h1,hs.slt b hb⟩
  ·exact VR.restrictA 4 hjs (fun k hk=>hβo k (List.contains_iff_mem.1 (hj1 k hk))) hv
  ·intro k o hk
   rcases hs.objs k _ (m1 k o hk)with⟨h1,h2,h3⟩|⟨bi,cur,e',fz,hbi,hr⟩
   ·exact .inl ⟨h1,h2,(hβo k (hin k o hk)).trans h3⟩
   ·refine .inr ⟨bi,cur,e',fz,(hβo k (hin k o hk)).trans hbi,hr.heap,hr.size,hr.free,hr.fits,hr.len,?_⟩
    intro i v hv
    obtain⟨u,hu,h1,hr'⟩:=hr.cells i v hv
    refine⟨u,hu,h1,?_⟩
    split at hr'
    ·rename_i hfl;rw[if_pos hfl];exact hr'
    ·rename_i hfl
     rw[if_neg hfl]
     rcases Zi0 hsh k o hk with hfl'|⟨js',hjs',hsub⟩
     ·exact absurd hfl' hfl
     ·obtain⟨kv,h1,h2⟩:=Zhu hjs' v (Ya0 hv)
      exact VR.restrictA 3 h1 (fun k hk=>hβo k (hsub k (h2 k hk))) hr'
  ·intro k o bi hk hbi
   rw[hβo k (hin k o hk)]at hbi
   have:=hs.own k bi (by rw[m1 k o hk];rfl) hbi
   refine⟨this.1,?_⟩
   rcases this.2 with h1|⟨⟨k0,hk0,b0,hb0,e0⟩,_⟩
   ·exact .inl h1
   ·exact .inr ⟨k0,hk0,b0,hb0,e0⟩
  ·intro k k' o o' bi bi' hk hk' hbi hbi' hblk
   rw[hβo k (hin k o hk)]at hbi
   rw[hβo k' (hin k' o' hk')]at hbi'
   exact hs.inj k k' bi bi' (by rw[m1 k o hk];rfl) (by rw[m1 k' o' hk'];rfl) hbi hbi' hblk
  ·intro k hk
   refine if_neg fun hkk=> ?_
   rw[<- m2]at hkk
   obtain⟨p,hp,rfl⟩:=Ya3.1 hkk
   exact hk p.2 hp
  ·intro k hk
   have hmem:k∈ks:=List.contains_iff_mem.1 (hkk k hk)
   obtain⟨bi,hbi⟩:=hkeep k hk
   have hp:=hpin k hk
   rw[hbi]at hp
   refine⟨?_,?_⟩
   ·rw[<- m2]at hmem
    obtain⟨q,hq,rfl⟩:=Ya3.1 hmem
    exact⟨q.2,hq⟩
   ·rw[hβo k hmem,hbi];exact hs.pins k bi (Zau hp)
 rcases he with rfl|rfl
 ·exact⟨hs.defers,u,hrun,r,m,u,hR,rfl,hOut⟩
 ·exact⟨hs.defers,u,hrun,r,m,u,hR,rfl,hOut⟩
theorem ZjX.mk {rs:List ResultVar}{keep:List Nat}{pn:Nat->Option BI}{R:V->Mem->Prop}{e:Exit}{c:Prop}{r:V}{js:List Nat}{m:Mem}(ks:List Nat)
 (h:ZCa P st rs=some (c,r)) (hj:ZfW 4 r=some js) (hm:Zid st ks=some m) (hchk:(js.all ks.contains&&ZmJ ks m&&decide ks.Nodup&&keep.all ks.contains)=true) (he:e= .ret\/e= .normal) (hp: ∀k∈keep,lk st.lent k=some (pn k)) (hc:c) (hR:R r m):ZjX P rs keep pn R e st:=
 ⟨he,c,r,ks,js,m,h,hc,hj,hm,hchk,hp,hR⟩
end
end Go.Abs
namespace Go.Abs
open Go Go.RowKit
def Zh1:List (Nat×Nat)->Nat->Option Nat
 |[],_=>none
 |p::l,K=>bif p.2==K then some p.1 else Zh1 l K
def Zfa (ρ:List (Nat×Nat))(d k:Nat):Nat:=(lk ρ k).getD (ZdA d k)
def Zhv (st:St)(ρ0:List (Nat×Nat)):List (Nat×Nat)->Option Mem
 |[]=>some []
 |p::l=>match st.obj p.2,Zhv st ρ0 l with
  |some o,some m=>some ((p.1,o.rk (Zh1 ρ0))::m)
  |_,_=>none
def St.dropK (st:St)(K:Nat):St:={ st with mem:=rm st.mem K }
def St.wipeK (st:St)(K:Nat):St:=
 { st with slots:=st.slots.map fun p=>(p.1,p.2.wipe K 4),mem:=rm (st.mem.map fun p=>(p.1,p.2.wipe K)) K,lent:=ZcO K st.lent }
def ZeV (keep:List Nat):List (Nat×Nat)->List Nat
 |[]=>[]
 |p::l=>bif keep.contains p.1 then ZeV keep l else p.2::ZeV keep l
def Zsj (ρ:List (Nat×Nat))(d:Nat):Mem->List Nat
 |[]=>[]
 |p::l=>match lk ρ p.1 with
  |some _=>Zsj ρ d l
  |none=>ZdA d p.1::Zsj ρ d l
def ZcZ (st:St):List (Nat×Nat)->Bool
 |[]=>false
 |p::l=>ZcX st.lent p.2||ZcZ st l
def Zhw:List Nat->List (Nat×Option BI)
 |[]=>[]
 |k::l=>(k,none)::Zhw l
def St.lendL (st:St)(b:Bool)(W:List Nat):St:={ st with lent:=bif b then Zhw W++st.lent else st.lent }
def ZgN (ρ:List (Nat×Nat))(d:Nat):Mem->St->St
 |[],st=>st
 |p::l,st=>ZgN ρ d l (st.setObj (Zfa ρ d p.1) (p.2.rk fun k=>some (Zfa ρ d k)))
def St.back (st:St)(ρ:List (Nat×Nat))(keep:List Nat)(d:Nat)(m:Mem)(r:V):St:=
 (ZgN ρ d m (((ZeV keep ρ++Zsj ρ d m).foldl St.wipeK (ρ.foldl (fun st p=>st.dropK p.2) st)).lendL (ZcZ st ρ) (ZeV keep ρ++Zsj ρ d m))).put d (r.rk (fun k=>some (Zfa ρ d k)) 4)
def Zrm (ρ:List (Nat×Nat))(d:Nat)(m:Mem):Bool:=m.all fun p=>(lk ρ p.1).isSome||ρ.all fun q=>q.2 != ZdA d p.1
def Zn4 (st:St)(ρ:List (Nat×Nat))(keep:List Nat):Bool:=
 decide (ρ.map (·.1)).Nodup&&decide (ρ.map (·.2)).Nodup&&keep.all fun k=>match (lk ρ k).bind st.obj with|some o=> !o.flat|| !o.cs.isEmpty|none=>false
section
variable {P:Program}{C:Ctx}{S:Nat->Prop}{β:Nat->Option BI}{st st':St}{a:Act}{w w':World}{Q:Exit->St->Prop}{ops:Array Oper}{rest:List Oper}{o:Oper}
theorem St.obj_dropK (st:St)(K j:Nat):(st.dropK K).obj j=if j=K then none else st.obj j:=by
 simp only[St.obj,St.dropK,ZnS]
theorem SR.dropK (h:SR C S β st a w)(K:Nat):SR C S β (st.dropK K) a w:=
 h.forget rfl rfl (fun _=> .inl rfl) (fun k o ho=>by rw[St.obj_dropK]at ho;split at ho;· cases ho
                                                     ·exact ho)
theorem St.obj_wipeK (st:St)(K j:Nat):(st.wipeK K).obj j=if j=K then none else(st.obj j).map (ZaK.wipe K):=by
 simp only[St.obj,St.wipeK,ZnS,Ze5]
theorem SR.wipeK (h:SR C S β st a w)(K:Nat)(x:Option BI):SR C S (upd β K x) (st.wipeK K) a w:=by
 have hoth: ∀j,j≠K->upd β K x j=β j:=fun j hj=>ZbO β K j x hj
 have hsome: ∀{j},((st.wipeK K).obj j).isSome=true->j≠K/\(st.obj j).isSome=true:=by
  intro j hj
  rw[St.obj_wipeK]at hj
  by_cases e:j=K
  ·rw[if_pos e]at hj;cases hj
  ·rw[if_neg e]at hj;exact⟨e,by simpa using hj⟩
 exact{
  tsize:=h.tsize
  slots:=fun i=>by
   have hi:=h.slots i
   unfold St.get at hi
   simp only[St.get,St.wipeK,Ze5]
   cases hl:lk st.slots i with
   |none=>exact .any _
   |some v=>rw[hl]at hi;exact VR.wipe hoth 4 hi
  defers:=h.defers
  objs:=fun j o ho=>by
   rw[St.obj_wipeK]at ho
   by_cases e:j=K
   ·rw[if_pos e]at ho;cases ho
   ·rw[if_neg e,Yaj]at ho
    obtain⟨o0,ho0,rfl⟩:=ho
    exact OR.step (h.objs j o0 ho0) (fun _ h=>h) (fun _ _=>rfl) (fun _ _=>rfl) (hoth j e) _ (fun v u hv=>VR.wipe hoth 3 hv)
  inj:=fun j j' bj bj' hj hj' hbj hbj' hblk=>by
   obtain⟨e1,h1⟩:=hsome hj
   obtain⟨e2,h2⟩:=hsome hj'
   rw[hoth j e1]at hbj
   rw[hoth j' e2]at hbj'
   exact h.inj j j' bj bj' h1 h2 hbj hbj' hblk
  own:=fun j bj hj hbj=>by
   obtain⟨e1,h1⟩:=hsome hj
   rw[hoth j e1]at hbj
   have:=h.own j bj h1 hbj
   refine⟨this.1,this.2.imp id (fun hL=>⟨hL.1,?_⟩)⟩
   show ZcX (ZcO K st.lent) j=true
   rw[ZbB];exact hL.2
  pins:=fun j bj hj=>by
   obtain⟨hne,hm⟩:=Zdh hj
   rw[hoth j hne];exact h.pins j bj hm
  sub:=h.sub
  snew:=h.snew
  slt:=h.slt
  frame:=h.frame }
def Zsk (β:Nat->Option BI)(f:Nat->Option BI):List Nat->(Nat->Option BI)
 |[]=>β
 |K::l=>Zsk (upd β K (f K)) f l
theorem Zn5 {f:Nat->Option BI}: ∀{l:List Nat} {β:Nat->Option BI} {K:Nat},K∈l->Zsk β f l K=f K
 |J::l,β,K,h=>by
  simp only[Zsk]
  by_cases hl:K∈l
  ·exact Zn5 hl
  ·rcases Yav.1 h with rfl|h
   ·have: ∀{l:List Nat} {β:Nat->Option BI},K∉l->Zsk β f l K=β K:=by
      intro l
      induction l with
      |nil=>intro β _;rfl
      |cons J l ih=>
       intro β hK
       simp only[Zsk]
       rw[ih (fun h=>hK (Yaq _ h)),ZbO _ _ _ _ (fun e=>hK (by simp[e]))]
    rw[this hl,ZaU]
   ·exact absurd h hl
theorem ZkP {f:Nat->Option BI}{K:Nat}: ∀{l:List Nat} {β:Nat->Option BI},K∉l->Zsk β f l K=β K
 |[],_,_=>rfl
 |J::l,β,hK=>by
  simp only[Zsk]
  rw[ZkP (fun h=>hK (Yaq _ h)),ZbO _ _ _ _ (fun e=>hK (by simp[e]))]
theorem SR.wipeL (f:Nat->Option BI): ∀(l:List Nat) {β:Nat->Option BI} {st:St},SR C S β st a w->SR C S (Zsk β f l) (l.foldl St.wipeK st) a w
 |[],_,_,h=>h
 |K::l,_,_,h=>SR.wipeL f l (h.wipeK K (f K))
theorem SR.dropL: ∀(l:List (Nat×Nat)) {st:St},SR C S β st a w->SR C S β (l.foldl (fun st p=>st.dropK p.2) st) a w
 |[],_,h=>h
 |p::l,_,h=>SR.dropL l (h.dropK p.2)
theorem ZgO: ∀(l:List (Nat×Nat)) (st:St) (j:Nat) (o:ZaK),(l.foldl (fun st p=>st.dropK p.2) st).obj j=some o->st.obj j=some o/\j∉l.map (·.2)
 |[],_,_,_,h=>⟨h,by simp⟩
 |p::l,st,j,o,h=>by
  obtain⟨h1,h2⟩:=ZgO l (st.dropK p.2) j o h
  rw[St.obj_dropK]at h1
  split at h1
  ·cases h1
  ·rename_i hne
   refine⟨h1,?_⟩
   rw[List.map_cons,Yav,not_or]
   exact⟨hne,h2⟩
theorem Zi1: ∀(l:List Nat) (st:St) (j:Nat),((l.foldl St.wipeK st).obj j).isSome=true->(st.obj j).isSome=true/\j∉l
 |[],_,_,h=>⟨h,by simp⟩
 |K::l,st,j,h=>by
  obtain⟨h1,h2⟩:=Zi1 l (st.wipeK K) j h
  rw[St.obj_wipeK]at h1
  by_cases e:j=K
  ·rw[if_pos e]at h1;cases h1
  ·rw[if_neg e]at h1
   refine⟨by simpa using h1,?_⟩
   rw[Yav,not_or]
   exact⟨e,h2⟩
theorem Zkj: ∀(l:List (Nat×Nat)) (st:St),(l.foldl (fun st p=>st.dropK p.2) st).lent=st.lent
 |[],_=>rfl
 |p::l,st=>(Zkj l (st.dropK p.2)).trans rfl
theorem Zkk: ∀(l:List Nat) (st:St) (j:Nat),ZcX (l.foldl St.wipeK st).lent j=ZcX st.lent j
 |[],_,_=>rfl
 |K::l,st,j=>(Zkk l (st.wipeK K) j).trans (ZbB K j st.lent)
theorem Zhx: ∀(W:List Nat) (l:List (Nat×Option BI)) (j:Nat),ZcX (Zhw W++l) j=(decide (j∈W)||ZcX l j)
 |[],l,j=>by simp[Zhw]
 |K::W,l,j=>by
  simp only[Zhw,List.cons_append,ZcX,Zhx W l j,Yav]
  by_cases e:K=j
  ·subst e;simp
  ·have:(j=K)=False:=by simp;exact fun h=>e h.symm
   simp[e,this]
theorem ZmK {bi:BI}: ∀{W:List Nat} {l:List (Nat×Option BI)} {j:Nat},(j,some bi)∈Zhw W++l->(j,some bi)∈l
 |[],_,_,h=>h
 |K::W,l,j,h=>by
  simp only[Zhw,List.cons_append,Yav]at h
  rcases h with h|h
  ·simp at h
  ·exact ZmK h
theorem SR.lendL (h:SR C S β st a w)(b:Bool)(W:List Nat):SR C S β (st.lendL b W) a w:=by
 refine{ tsize:=h.tsize,slots:=h.slots,defers:=h.defers,objs:=h.objs,inj:=h.inj,own:=fun k bi hk hb=> ?_,pins:=fun k bi hk=> ?_,sub:=h.sub,snew:=h.snew,slt:=h.slt,frame:=h.frame }
 ·have:=h.own k bi hk hb
  refine⟨this.1,this.2.imp id fun hL=>⟨hL.1,?_⟩⟩
  cases b with
  |false=>exact hL.2
  |true=>
   show ZcX (Zhw W++st.lent) k=true
   rw[Zhx,hL.2];simp
 ·cases b with
  |false=>exact h.pins k bi hk
  |true=>exact h.pins k bi (ZmK hk)
theorem SR.turn (h:SR C S β st a w){S':Nat->Prop}{L:Nat->Prop}(hfr:ZhV L w w')(hS: ∀b,S b->S' b)(hS': ∀b,S' b->S b\/(w.heap.size<=b/\b<w'.heap.size))
 (hLS: ∀b,L b-> ¬S b) (hLo: ∀k bi,(st.obj k).isSome=true->β k=some bi-> ¬L bi.blk) (hL0: ∀b,L b->b<C.w0.heap.size->C.L b):SR C S' β st a w':=by
 have hSk: ∀b,S b->w'.heap[b]? = w.heap[b]? :=fun b hb=>hfr.block b (h.slt b hb) (fun hl=>hLS b hl hb)
 exact{
  tsize:=h.tsize
  slots:=fun i=>(h.slots i).step hS hSk
  defers:=h.defers
  objs:=fun k o ho=>(h.objs k o ho).step' hS hSk (fun bi hbi=>hfr.block _ (h.blk_lt (by simp[ho]) hbi) (hLo k bi (by simp[ho]) hbi))
  inj:=h.inj
  own:=fun k bi hk hb=>by
   refine⟨fun hs=> ?_,(h.own k bi hk hb).2⟩
   rcases hS' _ hs with h1|⟨h1,_⟩
   ·exact(h.own k bi hk hb).1 h1
   ·have:=h.blk_lt hk hb;omega
  pins:=h.pins
  sub:=fun b hb=>hS b (h.sub b hb)
  snew:=fun b hb=>by
   rcases hS' b hb with h1|⟨h1,_⟩
   ·exact h.snew b h1
   ·right;have:=h.frame.size;omega
  slt:=fun b hb=>by
   rcases hS' b hb with h1|⟨_,h1⟩
   ·have:=h.slt b h1;have:=hfr.size;omega
   ·exact h1
  frame:=⟨hfr.os.trans h.frame.os,hfr.tape.trans h.frame.tape,hfr.output.trans h.frame.output,Nat.le_trans h.frame.size hfr.size,fun b hb hl=>
   (hfr.block b (Nat.lt_of_lt_of_le hb h.frame.size) (fun h1=>hl (hL0 b h1 hb))).trans (h.frame.block b hb hl)⟩ }
theorem SR.takeO (h:SR C S β st a w)(K:Nat)(o:ZaK)(hno:st.obj K=none)(hor:OR S w β K o)(hown: ∀bi,β K=some bi-> ¬S bi.blk/\(C.w0.heap.size<=bi.blk\/(C.L bi.blk/\ZcX st.lent K=true)))
 (hinj: ∀j bi bj,(st.obj j).isSome=true->β K=some bi->β j=some bj->bi.blk≠bj.blk):SR C S β (st.setObj K o) a w:=by
 have hsome: ∀{j},((st.setObj K o).obj j).isSome=true->j=K\/(j≠K/\(st.obj j).isSome=true):=by
  intro j hj
  rw[St.obj_setObj]at hj
  by_cases e:j=K
  ·exact .inl e
  ·rw[if_neg e]at hj;exact .inr ⟨e,hj⟩
 exact{
  tsize:=h.tsize
  slots:=h.slots
  defers:=h.defers
  objs:=fun j oj ho=>by
   rw[St.obj_setObj]at ho
   by_cases e:j=K
   ·subst e;rw[if_pos rfl]at ho;cases ho;exact hor
   ·rw[if_neg e]at ho;exact h.objs j oj ho
  inj:=fun j j' bj bj' hj hj' hbj hbj' hblk=>by
   rcases hsome hj with e|⟨e,h1⟩<;>rcases hsome hj' with e'|⟨e',h1'⟩
   ·rw[e,e']
   ·subst e;exact absurd hblk (hinj j' bj bj' h1' hbj hbj')
   ·subst e';exact absurd hblk.symm (hinj j bj' bj h1 hbj' hbj)
   ·exact h.inj j j' bj bj' h1 h1' hbj hbj' hblk
  own:=fun j bj hj hbj=>by
   rcases hsome hj with e|⟨e,h1⟩
   ·subst e;exact hown bj hbj
   ·exact h.own j bj h1 hbj
  pins:=h.pins
  sub:=h.sub
  snew:=h.snew
  slt:=h.slt
  frame:=h.frame }
theorem Zi2 {ρ:List (Nat×Nat)}{d:Nat}: ∀(m:Mem) (st:St),(ZgN ρ d m st).n=st.n
 |[],_=>rfl
 |p::l,st=>(Zi2 l (st.setObj _ _)).trans rfl
theorem SR.backAll {ρ:List (Nat×Nat)}{d:Nat}{β':Nat->Option BI}: ∀(m done:Mem) {st:St},SR C S β st a w->(∀k o,(k,o)∈done++m->β (Zfa ρ d k)=β' k)->(∀k,β' k=none\/β (Zfa ρ d k)=β' k)->
 (∀k o,(k,o)∈m->OR S w β' k o)->(∀k o bi,(k,o)∈m->β' k=some bi-> ¬S bi.blk/\(C.w0.heap.size<=bi.blk\/(C.L bi.blk/\ZcX st.lent (Zfa ρ d k)=true)))->
 (∀k k' o o' bi bi',(k,o)∈done++m->(k',o')∈done++m->β' k=some bi->β' k'=some bi'->bi.blk=bi'.blk->k=k')->((done++m).map fun p=>Zfa ρ d p.1).Nodup->
 (∀j bj,(st.obj j).isSome=true->β j=some bj->(∃k o,(k,o)∈done/\j=Zfa ρ d k)\/((∀k o,(k,o)∈m->j≠Zfa ρ d k)/\ ∀k o bi,(k,o)∈m->β' k=some bi->bi.blk≠bj.blk))->
 (∀k o,(k,o)∈m->st.obj (Zfa ρ d k)=none)->SR C S β (ZgN ρ d m st) a w
 |[],_,_,h,_,_,_,_,_,_,_,_=>h
 |(k,o)::m,done,st,h,hβ,hβn,hor,hown,hinj,hnd,hold,hnone=>by
  simp only[ZgN]
  have hmem:(k,o)∈done++(k,o)::m:=by simp
  have h1:=h.takeO (Zfa ρ d k) (o.rk fun k=>some (Zfa ρ d k)) (hnone k o (by simp)) (OR.rk (fun k1 j hj=>by cases hj;exact hβn k1) (hor k o (by simp)) (hβ k o hmem))
    (fun bi hbi=>hown k o bi (by simp) (by rw[<- hβ k o hmem];exact hbi)) (fun j bi bj hj hbi hbj e=>by
     rw[hβ k o hmem]at hbi
     rcases hold j bj hj hbj with⟨k',o',hk',rfl⟩|⟨_,h2⟩
     ·rw[hβ k' o' (by simp[hk'])]at hbj
      have:=hinj k k' o o' bi bj hmem (by simp[hk']) hbi hbj e
      subst this
      simp only[List.map_append,List.map_cons,List.nodup_append]at hnd
      exact hnd.2.2 (Zfa ρ d k) (Ya3.2 ⟨_,hk',rfl⟩) (Zfa ρ d k) (by simp) rfl
     ·exact h2 k o bi (by simp) hbi e)
  refine SR.backAll m (done++[(k,o)]) h1 (by simpa using hβ) hβn (fun k' o' hk=>hor k' o' (Yaq _ hk)) (fun k' o' bi hk hb=>hown k' o' bi (Yaq _ hk) hb) (by simpa using hinj) (by simpa using hnd) (fun j bj hj hbj=> ?_) (fun k' o' hk=> ?_)
  ·rw[St.obj_setObj]at hj
   by_cases e:j=Zfa ρ d k
   ·exact .inl ⟨k,o,by simp,e⟩
   ·rw[if_neg e]at hj
    rcases hold j bj hj hbj with⟨k',o',hk',e'⟩|⟨h2,h3⟩
    ·exact .inl ⟨k',o',by simp[hk'],e'⟩
    ·exact .inr ⟨fun k' o' hk=>h2 k' o' (Yaq _ hk),fun k' o' bi hk hb=>h3 k' o' bi (Yaq _ hk) hb⟩
  ·rw[St.obj_setObj]
   have hne:Zfa ρ d k'≠Zfa ρ d k:=by
     intro e
     simp only[List.map_append,List.map_cons,List.nodup_append,List.nodup_cons]at hnd
     exact hnd.2.1.1 (Ya3.2 ⟨(k',o'),hk,e⟩)
   rw[if_neg hne]
   exact hnone k' o' (Yaq _ hk)
theorem Zdj {ρ0:List (Nat×Nat)}: ∀{l:List (Nat×Nat)} {m:Mem},Zhv st ρ0 l=some m->m.map (·.1)=l.map (·.1)/\ ∀k o,(k,o)∈m-> ∃K o',(k,K)∈l/\st.obj K=some o'/\o=o'.rk (Zh1 ρ0)
 |[],m,h=>by
  simp only[Zhv,Yac]at h
  subst h
  exact⟨rfl,fun k o hk=>(by cases hk)⟩
 |p::l,m,h=>by
  simp only[Zhv]at h
  split at h<;>first|(cases h;done)|skip
  rename_i o m' ho hm
  injection h with h
  subst h
  obtain⟨h1,h2⟩:=Zdj hm
  refine⟨by rw[List.map_cons,List.map_cons,h1],fun k o1 hk=> ?_⟩
  rcases Yav.1 hk with e|hk
  ·cases e;exact⟨p.2,o,by simp,ho,rfl⟩
  ·obtain⟨K,o',e1,e2,e3⟩:=h2 k o1 hk
   exact⟨K,o',Yaq _ e1,e2,e3⟩
theorem Zer: ∀{l:List (Nat×Nat)} {K k:Nat},Zh1 l K=some k->(k,K)∈l
 |[],_,_,h=>by simp[Zh1]at h
 |p::l,K,k,h=>by
  simp only[Zh1]at h
  by_cases e:p.2=K
  ·subst e;simp at h;subst h;simp
  ·rw[show(p.2==K)=false from by simpa using e]at h
   exact Yaq _ (Zer h)
theorem Zd2 {keep:List Nat}{K:Nat}: ∀{l:List (Nat×Nat)},K∈ZeV keep l ↔ ∃k,(k,K)∈l/\k∉keep
 |[]=>by simp[ZeV]
 |p::l=>by
  simp only[ZeV]
  cases hc:keep.contains p.1 with
  |true=>
   rw[cond_true,Zd2]
   have:=List.contains_iff_mem.1 hc
   constructor
   ·rintro⟨k,h1,h2⟩;exact⟨k,Yaq _ h1,h2⟩
   ·rintro⟨k,h1,h2⟩
    rcases Yav.1 h1 with e|h1
    ·subst e;exact absurd this h2
    ·exact⟨k,h1,h2⟩
  |false=>
   have hn:p.1∉keep:=fun h=>by rw[List.contains_iff_mem.2 h]at hc;cases hc
   rw[cond_false,Yav,Zd2]
   constructor
   ·rintro(rfl|⟨k,h1,h2⟩)
    ·exact⟨p.1,by simp,hn⟩
    ·exact⟨k,Yaq _ h1,h2⟩
   ·rintro⟨k,h1,h2⟩
    rcases Yav.1 h1 with e|h1
    ·subst e;exact .inl rfl
    ·exact .inr ⟨k,h1,h2⟩
theorem Zes {ρ:List (Nat×Nat)}{d K:Nat}: ∀{m:Mem},K∈Zsj ρ d m ↔ ∃k o,(k,o)∈m/\lk ρ k=none/\K=ZdA d k
 |[]=>by simp[Zsj]
 |p::l=>by
  simp only[Zsj]
  cases hc:lk ρ p.1 with
  |some x=>
   simp only
   rw[Zes]
   constructor
   ·rintro⟨k,o,h1,h2,h3⟩;exact⟨k,o,Yaq _ h1,h2,h3⟩
   ·rintro⟨k,o,h1,h2,h3⟩
    rcases Yav.1 h1 with e|h1
    ·subst e;rw[hc]at h2;cases h2
    ·exact⟨k,o,h1,h2,h3⟩
  |none=>
   simp only
   rw[Yav,Zes]
   constructor
   ·rintro(rfl|⟨k,o,h1,h2,h3⟩)
    ·exact⟨p.1,p.2,by simp,hc,rfl⟩
    ·exact⟨k,o,Yaq _ h1,h2,h3⟩
   ·rintro⟨k,o,h1,h2,h3⟩
    rcases Yav.1 h1 with e|h1
    ·subst e;exact .inl h3
    ·exact .inr ⟨k,o,h1,h2,h3⟩
theorem Zi3: ∀{l:List (Nat×Nat)} {k K:Nat},(k,K)∈l->ZcX st.lent K=true->ZcZ st l=true
 |p::l,k,K,h,hk=>by
  simp only[ZcZ,Bool.or_eq_true]
  rcases Yav.1 h with e|h
  ·subst e;exact .inl hk
  ·exact .inr (Zi3 h hk)
theorem Zar {l:List (Nat×Nat)}{k K:Nat}(hn:(l.map (·.1)).Nodup)(h:(k,K)∈l):lk l k=some K:=Zzy hn h
theorem Zgk {k k' K:Nat}: ∀{l:List (Nat×Nat)},(l.map (·.2)).Nodup->(k,K)∈l->(k',K)∈l->k=k'
 |[],_,h,_=>by cases h
 |p::l,hn,ha,hb=>by
  simp only[List.map_cons,List.nodup_cons]at hn
  rcases Yav.1 ha with ea|ha'<;>rcases Yav.1 hb with eb|hb'
  ·rw[<- eb]at ea;cases ea;rfl
  ·subst ea;exact(hn.1 (Ya3.2 ⟨(k',K),hb',rfl⟩)).elim
  ·subst eb;exact(hn.1 (Ya3.2 ⟨(k,K),ha',rfl⟩)).elim
  ·exact Zgk hn.2 ha' hb'
theorem SR.calledM (h:SR C S β st a w){ρ:List (Nat×Nat)}{keep:List Nat}{d:Nat}(hd:d<st.n){mem m:Mem}{r:V}{u:Value}{βc:Nat->Option BI}
 (hl:Zhv st ρ ρ=some mem) (hck:Zn4 st ρ keep=true) (hcb:Zrm ρ d m=true) (hβc: ∀k,βc k=(lk ρ k).bind β)
 (hout:ZwB S w w' βc (mem.map (·.1)) keep r m u):SRx C (st.back ρ keep d m r) (a.put (some d) u) w':=by
 obtain⟨⟨S',β',h1,h2,h3,h4,h5,h6,h7,h8,h9⟩,hfr⟩:=hout
 obtain⟨hm1,hm2⟩:=Zdj hl
 simp only[Zn4,Yao,Yaz,Yat]at hck
 obtain⟨⟨hn1,hn2⟩,hkp⟩:=hck
 have hkeys: ∀k∈mem.map (·.1),∃K,(k,K)∈ρ/\lk ρ k=some K/\(st.obj K).isSome=true:=by
  intro k hk
  obtain⟨p,hp,rfl⟩:=Ya3.1 hk
  obtain⟨K,o',e1,e2,_⟩:=hm2 p.1 p.2 hp
  exact⟨K,e1,Zar hn1 e1,by rw[e2];rfl⟩
 have hρk: ∀k K,(k,K)∈ρ->k∈mem.map (·.1):=fun k K hk=>by rw[hm1];exact Ya3.2 ⟨_,hk,rfl⟩
 have hinj2: ∀k k' K,(k,K)∈ρ->(k',K)∈ρ->k=k':=by
  intro k k' K e1 e2
  exact Zgk hn2 e1 e2
 let L:Nat->Prop:=fun b=> ∃k0∈mem.map (·.1),∃b0,βc k0=some b0/\b=b0.blk
 have hLk: ∀b,L b-> ∃K b0,(st.obj K).isSome=true/\β K=some b0/\b=b0.blk/\ ∃k0,(k0,K)∈ρ:=by
  rintro b ⟨k0,hk0,b0,hb0,e⟩
  obtain⟨K,e1,e2,e3⟩:=hkeys k0 hk0
  rw[hβc,e2]at hb0
  exact⟨K,b0,e3,hb0,e,k0,e1⟩
 have hA:=(SR.dropL ρ h).turn (w':=w') (S':=S') (L:=L) hfr h1 h2 (fun b hb=>by
  obtain⟨K,b0,e1,e2,rfl,_⟩:=hLk b hb
  exact(h.own K b0 e1 e2).1) (fun k bi hk hbi hb=>by
  obtain⟨o,ho⟩:=Yax.1 hk
  obtain⟨g1,g2⟩:=ZgO ρ st k o ho
  obtain⟨K,b0,e1,e2,e3,k0,e4⟩:=hLk _ hb
  have:=h.inj k K bi b0 (by rw[g1];rfl) e1 hbi e2 e3
  subst this
  exact g2 (Ya3.2 ⟨_,e4,rfl⟩)) (fun b hb hlt=>by
  obtain⟨K,b0,e1,e2,rfl,_⟩:=hLk b hb
  rcases(h.own K b0 e1 e2).2 with h|h
  ·omega
  ·exact h.1)
 let τ:Nat->Nat:=Zfa ρ d
 let W:=ZeV keep ρ++Zsj ρ d m
 have hcbm: ∀k o,(k,o)∈m->lk ρ k=none-> ∀q∈ρ,q.2≠ZdA d k:=by
  intro k o hk hn q hq
  simp only[Zrm,Yat]at hcb
  have:=hcb _ hk
  simp only[Bool.or_eq_true,Yat,bne_iff_ne,ne_eq]at this
  rcases this with h|h
  ·rw[hn]at h;cases h
  ·exact h q hq
 have hτin: ∀k K,(k,K)∈ρ->τ k=K:=fun k K hk=>by simp only[τ,Zfa,Zar hn1 hk];rfl
 have hτnew: ∀k,lk ρ k=none->τ k=ZdA d k:=fun k hk=>by simp only[τ,Zfa,hk];rfl
 have hτinj: ∀k o k' o',(k,o)∈m->(k',o')∈m->τ k=τ k'->k=k':=by
  intro k o k' o' hk hk' e
  cases hc:lk ρ k with
  |some K=>
   rw[hτin k K (Zau hc)]at e
   cases hc':lk ρ k' with
   |some K'=>rw[hτin k' K' (Zau hc')]at e;subst e;exact hinj2 k k' K (Zau hc) (Zau hc')
   |none=>rw[hτnew k' hc']at e;exact absurd e (hcbm k' o' hk' hc' _ (Zau hc))
  |none=>
   rw[hτnew k hc]at e
   cases hc':lk ρ k' with
   |some K'=>rw[hτin k' K' (Zau hc')]at e;exact absurd e.symm (hcbm k o hk hc _ (Zau hc'))
   |none=>rw[hτnew k' hc']at e;exact Zil e
 let f:Nat->Option BI:=fun K=>match Zh1 ρ K with
  |some k=>β' k
  |none=>β' ((K-d)/1000-1)
 have hfin: ∀k K,(k,K)∈ρ->f K=β' k:=by
  intro k K hk
  have hinv:Zh1 ρ K=some k:=by
   have: ∀{l:List (Nat×Nat)},(l.map (·.2)).Nodup->(k,K)∈l->Zh1 l K=some k:=by
    intro l
    induction l with
    |nil=>intro _ h;cases h
    |cons p l ih=>
     intro hn ha
     simp only[List.map_cons,List.nodup_cons]at hn
     simp only[Zh1]
     rcases Yav.1 ha with ea|ha
     ·subst ea;simp
     ·have:p.2≠K:=fun e=>hn.1 (Ya3.2 ⟨_,ha,e.symm⟩)
      rw[show(p.2==K)=false from by simpa using this,cond_false]
      exact ih hn.2 ha
   exact this hn2 hk
  simp only[f,hinv]
 have hfnew: ∀k o,(k,o)∈m->lk ρ k=none->f (ZdA d k)=β' k:=by
  intro k o hk hn
  have hinv:Zh1 ρ (ZdA d k)=none:=by
   cases hi:Zh1 ρ (ZdA d k)with
   |none=>rfl
   |some j=>exact absurd rfl (hcbm k o hk hn _ (Zer hi))
  have e:(ZdA d k-d)/1000-1=k:=by unfold ZdA;omega
  simp only[f,hinv,e]
 let β2:=Zsk β f W
 have hβ2: ∀k o,(k,o)∈m->β2 (τ k)=β' k:=by
  intro k o hk
  cases hc:lk ρ k with
  |some K=>
   have hK:=Zau hc
   rw[hτin k K hK]
   by_cases hkeep:k∈keep
   ·have hnot:K∉W:=by
      intro hW
      rcases List.mem_append.1 hW with hW|hW
      ·obtain⟨k',e1,e2⟩:=Zd2.1 hW
       exact e2 (hinj2 k' k K e1 hK▸hkeep)
      ·obtain⟨k',o',e1,e2,e3⟩:=Zes.1 hW
       exact hcbm k' o' e1 e2 _ hK e3
    show Zsk β f W K=_
    rw[ZkP hnot,(h9 k hkeep).2,hβc,hc];rfl
   ·have hin:K∈W:=List.mem_append.2 (.inl (Zd2.2 ⟨k,hK,hkeep⟩))
    show Zsk β f W K=_
    rw[Zn5 hin,hfin k K hK]
  |none=>
   rw[hτnew k hc]
   have hin:ZdA d k∈W:=List.mem_append.2 (.inr (Zes.2 ⟨k,o,hk,hc,rfl⟩))
   show Zsk β f W _=_
   rw[Zn5 hin,hfnew k o hk hc]
 have hβn: ∀k,β' k=none\/β2 (τ k)=β' k:=by
  intro k
  by_cases hk: ∃o,(k,o)∈m
  ·obtain⟨o,ho⟩:=hk;exact .inr (hβ2 k o ho)
  ·exact .inl (h7 k fun o ho=>hk ⟨o,ho⟩)
 have hB:=(SR.wipeL f W hA).lendL (ZcZ st ρ) W
 have hleft: ∀j bj,(((W.foldl St.wipeK (ρ.foldl (fun st p=>st.dropK p.2) st)).lendL (ZcZ st ρ) W).obj j).isSome=true->β2 j=some bj->(st.obj j).isSome=true/\j∉ρ.map (·.2)/\j∉W/\β j=some bj:=by
  intro j bj hj hbj
  obtain⟨g1,g2⟩:=Zi1 W _ j hj
  obtain⟨o,ho⟩:=Yax.1 g1
  obtain⟨g3,g4⟩:=ZgO ρ st j o ho
  exact⟨by rw[g3];rfl,g4,g2,by rw[<- ZkP (f:=f) (β:=β) g2];exact hbj⟩
 have hD:=SR.backAll (ρ:=ρ) (d:=d) (β':=β') m [] hB (fun k o hk=>hβ2 k o hk) hβn h4 (fun k o bi hk hb=>by
  obtain⟨g1,g2⟩:=h5 k o bi hk hb
  refine⟨g1,?_⟩
  rcases g2 with g2|⟨k0,hk0,b0,hb0,e0⟩
  ·left;have:=h.frame.size;omega
  ·obtain⟨K,e1,e2,e3⟩:=hkeys k0 hk0
   rw[hβc,e2]at hb0
   rcases(h.own K b0 e3 hb0).2 with g|⟨g,gl⟩
   ·left;omega
   ·right
    refine⟨by rw[e0];exact g,?_⟩
    have hany:=Zi3 e1 gl
    show ZcX (bif ZcZ st ρ then Zhw W++_ else _) _=true
    rw[hany,cond_true,Zhx]
    by_cases hW:τ k∈W
    ·have:Zfa ρ d k∈W:=hW
     simp[this]
    ·-- a kept key: its own block
     have hc: ∃K',lk ρ k=some K'/\k∈keep:=by
      cases hc:lk ρ k with
      |none=>
       exact absurd (List.mem_append.2 (.inr (Zes.2 ⟨k,o,hk,hc,hτnew k hc⟩))) hW
      |some K'=>
       refine⟨K',rfl,?_⟩
       by_cases hkk:k∈keep
       ·exact hkk
       ·exact absurd (List.mem_append.2 (.inl (Zd2.2 ⟨k,by rw[hτin k K' (Zau hc)];exact Zau hc,hkk⟩))) hW
     obtain⟨K',hc,hkk⟩:=hc
     have hb':β K'=some bi:=by
      have:=(h9 k hkk).2
      rw[hb,hβc,hc]at this
      exact this.symm
     obtain⟨K'',q1,q2,q3⟩:=hkeys k (hρk k K' (Zau hc))
     rw[hc]at q2;cases q2
     have hKK:K'=K:=h.inj K' K bi b0 q3 e3 hb' hb0 e0
     have hτk:Zfa ρ d k=K':=hτin k K' (Zau hc)
     rw[hτk,hKK,Zkk,Zkj,gl];simp) (by simpa using h6) (by
  rw[List.nil_append]
  have hp:List.Pairwise (fun p q:Nat×ZaK=>Zfa ρ d p.1≠Zfa ρ d q.1) m:=by
   rw[List.nodup_iff_pairwise_ne,List.pairwise_map]at h8
   have hmm: ∀p∈m,∀q∈m,p.1≠q.1->Zfa ρ d p.1≠Zfa ρ d q.1:=fun p hp q hq hne e=>hne (hτinj p.1 p.2 q.1 q.2 hp hq e)
   exact List.Pairwise.imp_of_mem (fun{p q} hp hq hne=>hmm p hp q hq hne) h8
  rw[List.nodup_iff_pairwise_ne,List.pairwise_map]
  exact hp) (fun j bj hj hbj=>by
  right
  obtain⟨g1,g2,g3,g4⟩:=hleft j bj hj hbj
  refine⟨fun k o hk e=> ?_,fun k o bi hk hb e=> ?_⟩
  ·subst e
   cases hc:lk ρ k with
   |some K=>
    have hK:=Zau hc
    refine g2 ?_
    have hτk:Zfa ρ d k=K:=hτin k K hK
    rw[hτk];exact Ya3.2 ⟨_,hK,rfl⟩
   |none=>
    refine g3 ?_
    have hτk:Zfa ρ d k=ZdA d k:=hτnew k hc
    rw[hτk];exact List.mem_append.2 (.inr (Zes.2 ⟨k,o,hk,hc,rfl⟩))
  ·have hlt:=h.blk_lt g1 g4
   rcases(h5 k o bi hk hb).2 with q|⟨k0,hk0,b0,hb0,e0⟩
   ·omega
   ·obtain⟨K,e1,e2,e3⟩:=hkeys k0 hk0
    rw[hβc,e2]at hb0
    have:=h.inj j K bj b0 g1 e3 g4 hb0 (e▸e0)
    subst this
    exact g2 (Ya3.2 ⟨_,e1,rfl⟩)) (fun k o hk=>by
  cases hob:((W.foldl St.wipeK (ρ.foldl (fun st p=>st.dropK p.2) st)).lendL (ZcZ st ρ) W).obj (Zfa ρ d k)with
  |none=>rfl
  |some x=>
   exfalso
   obtain⟨g1,g2⟩:=Zi1 W _ (Zfa ρ d k) (by
     have:(W.foldl St.wipeK (ρ.foldl (fun st p=>st.dropK p.2) st)).obj (Zfa ρ d k)=some x:=hob
     rw[this];rfl)
   obtain⟨o',ho'⟩:=Yax.1 g1
   obtain⟨_,g4⟩:=ZgO ρ st _ o' ho'
   cases hc:lk ρ k with
   |some K=>
    have hτk:Zfa ρ d k=K:=hτin k K (Zau hc)
    rw[hτk]at g4
    exact g4 (Ya3.2 ⟨_,Zau hc,rfl⟩)
   |none=>
    have hτk:Zfa ρ d k=ZdA d k:=hτnew k hc
    rw[hτk]at g2
    exact g2 (List.mem_append.2 (.inr (Zes.2 ⟨k,o,hk,hc,rfl⟩))))
 refine⟨S',β2,hD.put ?_ (VR.rk (fun k j hj=>by cases hj;exact hβn k) 4 h3)⟩
 have hnw: ∀(l:List Nat) (st:St),(l.foldl St.wipeK st).n=st.n:=by
  intro l
  induction l with
  |nil=>intro st;rfl
  |cons K l ih=>intro st;exact(ih (st.wipeK K)).trans rfl
 have hndd: ∀(l:List (Nat×Nat)) (st:St),(l.foldl (fun st p=>st.dropK p.2) st).n=st.n:=by
  intro l
  induction l with
  |nil=>intro st;rfl
  |cons K l ih=>intro st;exact(ih (st.dropK K.2)).trans rfl
 rw[Zi2]
 show d<(W.foldl St.wipeK (ρ.foldl (fun st p=>st.dropK p.2) st)).n
 rw[hnw,hndd];exact hd
theorem AWL.callM {f:FuncId}{args:Array Operand}{argTypes:Array TypeId}{d:Nat}(ρ:List (Nat×Nat)){keep:List Nat}{mem:Mem}{cargs:List V}{R:V->Mem->Prop}(hg:o.guard=none)(ho:o.op= .call { callee:= .value (.func f),args,argTypes })(hd:o.dst=some d)(hf:Za P f=true)
 (hdn:d<st.n) (hl:Zhv st ρ ρ=some mem) (hck:Zn4 st ρ keep=true) (hargs:args.toList.map (fun x=>(st.ev x).rk (Zh1 ρ) 4)=cargs) (hAM:AM P f cargs mem keep R)
 (k: ∀r m,R r m->Zrm ρ d m=true/\AWL P ops rest Q (st.back ρ keep d m r)):AWL P ops (o::rest) Q st:=fun C a w ⟨S,β,hs⟩=>by
 refine wpList_plain hg fun K hK=> ?_
 unfold Oper.wp
 rw[Zfy ho hf]
 subst hargs
 obtain⟨hm1,hm2⟩:=Zdj hl
 have hck':=hck
 simp only[Zn4,Yao,Yaz,Yat]at hck'
 obtain⟨⟨hn1,hn2⟩,hkp⟩:=hck'
 let βc:Nat->Option BI:=fun k=>(lk ρ k).bind β
 have hσ: ∀K j,Zh1 ρ K=some j->β K=none\/βc j=β K:=fun K j hj=> .inr (by simp only[βc,Zar hn1 (Zer hj)];rfl)
 have hc:=hAM S w βc (args.toList.map a.eval) hs.sok (by simp) (fun j v u hv hu=>by
  rw[Yas,Yaj]at hv hu
  obtain⟨x,hx,rfl⟩:=hv
  obtain⟨y,hy,rfl⟩:=hu
  rw[hx]at hy;cases hy
  exact VR.rk hσ 4 (Zag hs x)) (fun k o hk=>by
  obtain⟨K,o',e1,e2,rfl⟩:=hm2 k o hk
  exact OR.rk hσ (hs.objs K o' e2) (by simp only[βc,Zar hn1 e1];rfl)) (fun k o bi hk hb=>by
  obtain⟨K,o',e1,e2,rfl⟩:=hm2 k o hk
  simp only[βc,Zar hn1 e1]at hb
  exact(hs.own K bi (by rw[e2];rfl) hb).1) (fun k k' o o' bi bi' hk hk' hb hb' e=>by
  obtain⟨K,o1,e1,e2,rfl⟩:=hm2 k o hk
  obtain⟨K',o1',e1',e2',rfl⟩:=hm2 k' o' hk'
  simp only[βc,Zar hn1 e1]at hb
  simp only[βc,Zar hn1 e1']at hb'
  have hKK:=hs.inj K K' bi bi' (by rw[e2];rfl) (by rw[e2'];rfl) hb hb' e
  subst hKK
  exact Zgk hn2 e1 e1') (by rw[hm1];exact hn1) (fun k hk=>by
  have:=hkp k hk
  split at this
  ·rename_i o ho
   rw[Option.bind_eq_some_iff]at ho
   obtain⟨K,hK1,hK2⟩:=ho
   rcases hs.objs K o hK2 with⟨q1,q2,_⟩|⟨bi,_,_,_,hbi,_⟩
   ·rw[q1,q2]at this;cases this
   ·exact⟨bi,by simp only[βc,hK1];exact hbi⟩
  ·cases this)
 have e:(args.toList.map a.eval).toArray=args.map a.eval:=by rw[<- Array.toList_map]
 rw[e]at hc
 refine Calls.mono hc ?_
 rintro e' w' ⟨r,m,u,hR,rfl,hout⟩
 obtain⟨hcb,hk⟩:=k r m hR
 have:=hs.calledM (d:=d) hdn hl hck hcb (fun _=>rfl) hout
 show K (a.put o.dst u) w'
 rw[hd]
 exact hK _ _ (hk C _ w' this)
end
end Go.Abs
namespace Go.Abs
open Go Go.RowKit
mutual
inductive Le:V->V->Prop
 |same (v:V):Le v v
 |nil (s:Nat):Le .nils (.view 0 s [])
 |view {n s:Nat} {cs cs':List V} (h:Les cs cs'):Le (.view n s cs) (.view n s cs')
 |vptr {cs cs':List V} (h:Les cs cs'):Le (.vptr cs) (.vptr cs')
 |fagg {cs cs':List V} (h:Les cs cs'):Le (.fagg cs) (.fagg cs')
 |agg {cs cs':List V} (h:Les cs cs'):Le (.agg cs) (.agg cs')
inductive Les:List V->List V->Prop
 |nil:Les [] []
 |cons {v v':V} {l l':List V} (h:Le v v') (hs:Les l l'):Les (v::l) (v'::l')
end
theorem Les.length: ∀{l l':List V},Les l l'->l.length=l'.length
 |_,_,.nil=>rfl
 |_,_,.cons _ hs=>by simp[Les.length hs]
theorem Les.get: ∀{l l':List V} {j:Nat} {v':V},Les l l'->l'[j]? = some v'-> ∃v,l[j]? = some v/\Le v v'
 |_,_,_,_,.nil,h=>by simp at h
 |_,_,0,_,.cons h _,hj=>by simp at hj;subst hj;exact⟨_,rfl,h⟩
 |_,_,j+1,_,.cons _ hs,hj=>by
  obtain⟨v0,h1,h2⟩:=Les.get (j:=j) hs (by simpa using hj)
  exact⟨v0,by simpa using h1,h2⟩
theorem Le.cell1 {v v':V}(h:Le v v')(h1:v.cell1=true):v'.cell1=true:=by
 cases h<;>first|exact h1|rfl
theorem Le.FR {S:Nat->Prop}{w:World}{v v':V}{u:Value}(h:FR S w v u)(hl:Le v v'):FR S w v' u:=by
 induction h generalizing v' with
 |view n sz cs A c us hln hc ha hr h1 ih=>
  cases hl with
  |same=>exact .view n sz cs A c us hln hc ha hr h1
  |view hs=>
   have e:=hs.length
   refine .view n sz _ A c us (by rw[<- e];exact hln) hc (fun hne=> ?_) (fun j v hj=> ?_) (fun j v hj=> ?_)
   ·obtain⟨b,o,h2,h3,h4⟩:=ha (fun h0=>hne (by rw[h0]at e;exact Yay e.symm))
    exact⟨b,o,h2,h3,fun j v hj=>by obtain⟨v0,h5,_⟩:=hs.get hj;exact h4 j v0 h5⟩
   ·obtain⟨v0,h5,h6⟩:=hs.get hj;exact ih j v0 h5 h6
   ·obtain⟨v0,h5,h6⟩:=hs.get hj;exact h6.cell1 (h1 j v0 h5)
 |vptr cs b o us hS ha hr h1 ih=>
  cases hl with
  |same=>exact .vptr cs b o us hS ha hr h1
  |vptr hs=>
   have e:=hs.length
   refine .vptr _ b o us (fun hne=>hS (fun h0=>hne (by rw[h0]at e;exact Yay e.symm))) (fun j v hj=> ?_) (fun j v hj=> ?_) (fun j v hj=> ?_)
   ·obtain⟨v0,h5,_⟩:=hs.get hj;exact ha j v0 h5
   ·obtain⟨v0,h5,h6⟩:=hs.get hj;exact ih j v0 h5 h6
   ·obtain⟨v0,h5,h6⟩:=hs.get hj;exact h6.cell1 (h1 j v0 h5)
 |fagg cs us hln hr h1 ih=>
  cases hl with
  |same=>exact .fagg cs us hln hr h1
  |fagg hs=>
   refine .fagg _ us (by rw[<- hs.length];exact hln) (fun j v u hj hu=> ?_) (fun j v hj=> ?_)
   ·obtain⟨v0,h5,h6⟩:=hs.get hj;exact ih j v0 u h5 hu h6
   ·obtain⟨v0,h5,h6⟩:=hs.get hj;exact h6.cell1 (h1 j v0 h5)
 |nils A=>
  cases hl with
  |same=>exact .nils A
  |nil s=>exact .view 0 s [] A 0 (fun _=>undef) (by simp) (Nat.le_refl _) (fun hne=>absurd rfl hne) (fun j v hj=>by simp at hj) (fun j v hj=>by simp at hj)
 |int k n=>cases hl;exact .int k n
 |bool b=>cases hl;exact .bool b
 |str s=>cases hl;exact .str s
 |con v=>cases hl;exact .con v
 |fn f=>cases hl;exact .fn f
 |clo f cs us hln hr ih=>cases hl;exact .clo f cs us hln hr
 |mclo f cs us hln hr ih=>cases hl;exact .mclo f cs us hln hr
theorem Le.VR {S:Nat->Prop}{w:World}{β:Nat->Option BI}{v v':V}{u:Value}(h:VR S w β v u)(hl:Le v v'):VR S w β v' u:=by
 induction h generalizing v' with
 |flat h=>exact .flat (hl.FR h)
 |any u=>cases hl;exact .any u
 |ref k off n sz A c h=>cases hl;exact .ref k off n sz A c h
 |ptr k off bi h=>cases hl;exact .ptr k off bi h
 |agg cs us hln hr ih=>
  cases hl with
  |same=>exact .agg cs us hln hr
  |agg hs=>
   refine .agg _ us (by rw[<- hs.length];exact hln) (fun j v u hj hu=> ?_)
   obtain⟨v0,h5,h6⟩:=hs.get hj;exact ih j v0 u h5 hu h6
 |tup vs us hln hr ih=>cases hl;exact .tup vs us hln hr
 |fn f cap us hln hr ih=>cases hl;exact .fn f cap us hln hr
 |mfn f cap us hln hr ih=>cases hl;exact .mfn f cap us hln hr
end Go.Abs
